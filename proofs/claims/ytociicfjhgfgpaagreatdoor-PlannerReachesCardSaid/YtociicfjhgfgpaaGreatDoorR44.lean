/- PlannerReaches: near: the walk. The fixed examples' numbers: plain facts. -/
import Derived.Test.YtociicfjhgfgpaaGreatDoorR41
import Derived.Test.YtociicfjhgfgpaaGreatDoorR43
import Derived.Test.YtociicfjhgfgpaaGreatDoorR39
set_option linter.unusedVariables false
set_option linter.unusedSimpArgs false
set_option maxHeartbeats 32000000
set_option maxRecDepth 100000
namespace Go.Proofs.YtociicfjhgfgpaaGreatDoor
open Go.RowKit Go.Shelf Go.Lib Go.Proofs.YtociicfjhgfgpaaGreatDoorW.PrintWords
theorem cmp_le0 (p q : Rat) : decide (cmpR p q ≤ 0) = decide (p ≤ q) := by
 unfold cmpR
 rw [Bool.eq_iff_iff]
 simp only [decide_eq_true_eq]
 split
 ·rename_i h
  exact ⟨fun _ => Rat.le_of_lt h, fun _ => by omega⟩
 ·split
  ·rename_i h1 h2
   subst h2
   exact ⟨fun _ => Rat.le_refl, fun _ => by omega⟩
  ·rename_i h1 h2
   exact ⟨fun h => by omega, fun h => absurd (Rat.le_antisymm h (Rat.not_lt.1 h1)) h2⟩
theorem lw_near (x0 y0 x1 y1 r x y : Rat) (w : World) (hp : Pow w) (h0 : Sq x0) (h1 : Sq y0) (h2 : Sq x1) (h3 : Sq y1) (hr : Sq r) (hx : Sq x) (hy : Sq y) (ha : Sq (x0 + r)) (hb' : Sq (y0 + r)) (hc : Sq (x1 - r)) (hd : Sq (y1 - r))
  (hdx : Sq (beyR x (x0 + r) (x1 - r))) (hdy : Sq (beyR y (y0 + r) (y1 - r))) (hxx : Sq (beyR x (x0 + r) (x1 - r) * beyR x (x0 + r) (x1 - r))) (hyy : Sq (beyR y (y0 + r) (y1 - r) * beyR y (y0 + r) (y1 - r)))
  (hs : Sq (beyR x (x0 + r) (x1 - r) * beyR x (x0 + r) (x1 - r) + beyR y (y0 + r) (y1 - r) * beyR y (y0 + r) (y1 - r))) (hrr : Sq (r * r)) :
  Calls Tryz.prog 21 #[rcv x0 y0 x1 y1, rv r, rv x, rv y] w fun e w' => e = .returned (.bool (decide (beyR x (x0 + r) (x1 - r) * beyR x (x0 + r) (x1 - r) + beyR y (y0 + r) (y1 - r) * beyR y (y0 + r) (y1 - r) ≤ r * r))) ∧ Below w.heap.size w w' := by
 have A0 := fun W hp => rat_Add x0 r W hp h0 hr
 have A1 := fun W hp => rat_Add y0 r W hp h1 hr
 have A2 := fun W hp => rat_Sub x1 r W hp h2 hr
 have A3 := fun W hp => rat_Sub y1 r W hp h3 hr
 have B0 := fun W hp => lw_beyond x (x0 + r) (x1 - r) W hp hx ha hc
 have B1 := fun W hp => lw_beyond y (y0 + r) (y1 - r) W hp hy hb' hd
 generalize beyR x (x0 + r) (x1 - r) = dx at *
 generalize beyR y (y0 + r) (y1 - r) = dy at *
 have M0 := fun W hp => rat_Mul dx dx W hp hdx hdx
 have M1 := fun W hp => rat_Mul dy dy W hp hdy hdy
 have M2 := fun W hp => rat_Add (dx * dx) (dy * dy) W hp hxx hyy
 have M3 := fun W hp => rat_Mul r r W hp hr hr
 have M4 := fun W hp => rat_Compare (dx * dx + dy * dy) (r * r) W hp hs hrr
 have hz := cmp_le0 (dx * dx + dy * dy) (r * r)
 clear h0 h1 h2 h3 hr hx hy ha hb' hc hd hdx hdy hxx hyy hs hrr
 generalize decide (dx * dx + dy * dy ≤ r * r) = res at *
 generalize cmpR (dx * dx + dy * dy) (r * r) = cz at *
 generalize dx * dx + dy * dy = uu at *
 generalize dx * dx = i at *
 generalize dy * dy = j at *
 generalize r * r = o at *
 generalize x0 + r = e at *
 generalize y0 + r = f at *
 generalize x1 - r = g at *
 generalize y1 - r = h at *
 unfold rv rcv at *
 generalize itx x0.num = a1 at *
 generalize itx (x0.den : Int) = a2 at *
 generalize itx y0.num = b1 at *
 generalize itx (y0.den : Int) = b2 at *
 generalize itx x1.num = c1 at *
 generalize itx (x1.den : Int) = c2 at *
 generalize itx y1.num = d1 at *
 generalize itx (y1.den : Int) = d2 at *
 generalize itx r.num = r1 at *
 generalize itx (r.den : Int) = r2 at *
 generalize itx x.num = x1 at *
 generalize itx (x.den : Int) = x2 at *
 generalize itx y.num = y1 at *
 generalize itx (y.den : Int) = y2 at *
 generalize itx e.num = e1 at *
 generalize itx (e.den : Int) = e2 at *
 generalize itx f.num = f1 at *
 generalize itx (f.den : Int) = f2 at *
 generalize itx g.num = g1 at *
 generalize itx (g.den : Int) = g2 at *
 generalize itx h.num = h1 at *
 generalize itx (h.den : Int) = h2 at *
 generalize itx i.num = i1 at *
 generalize itx (i.den : Int) = i2 at *
 generalize itx j.num = j1 at *
 generalize itx (j.den : Int) = j2 at *
 generalize itx o.num = o1 at *
 generalize itx (o.den : Int) = o2 at *
 generalize itx uu.num = u1 at *
 generalize itx (uu.den : Int) = u2 at *
 generalize itx dx.num = v1 at *
 generalize itx (dx.den : Int) = v2 at *
 generalize itx dy.num = z1 at *
 generalize itx (dy.den : Int) = z2 at *
 have ZZ := Aside0.mk hz
 clear hz
 obtain ⟨hB0, k0, k1, k2, k3, k4⟩ := news5 w #[.string a1, .string a2, .string b1, .string b2, .string c1, .string c2, .string d1, .string d2] 28 #[.string r1, .string r2] 25 #[.string x1, .string x2] 25 #[.string y1, .string y2] 25 #[.string ⟨#[]⟩, .string ⟨#[]⟩, .string ⟨#[]⟩, .string ⟨#[]⟩, .string ⟨#[]⟩, .string ⟨#[]⟩, .string ⟨#[]⟩, .string ⟨#[]⟩] 28
 have hle4 : w.heap.size ≤ w.heap.size + 4 := Nat.le_add_right _ _
 have n0 : w.heap.size ≠ w.heap.size + 4 := by omega
 have n1 : w.heap.size + 1 ≠ w.heap.size + 4 := by omega
 have n2 : w.heap.size + 2 ≠ w.heap.size + 4 := by omega
 have n3 : w.heap.size + 3 ≠ w.heap.size + 4 := by omega
 go_enter Tryz.func21, Tryz.ntmps21
 go_wp2
 refine wp_loop_rounds 5 ?_
 rw [rounds_succ]
 go_wp2
 have hb1 := bZd hB0
 have S0 := k0.drew
 have S1 := k1.drew
 have S2 := k2.drew
 have S3 := k3.drew
 have S4 := k4.drew
 generalize (((((w.alloc (.cells #[.string a1, .string a2, .string b1, .string b2, .string c1, .string c2, .string d1, .string d2] 28)).alloc (.cells #[.string r1, .string r2] 25)).alloc (.cells #[.string x1, .string x2] 25)).alloc (.cells #[.string y1, .string y2] 25)).alloc (.cells #[.string ⟨#[]⟩, .string ⟨#[]⟩, .string ⟨#[]⟩, .string ⟨#[]⟩, .string ⟨#[]⟩, .string ⟨#[]⟩, .string ⟨#[]⟩, .string ⟨#[]⟩] 28)) = x0w at *
 clear hB0 k0 k1 k2 k3 k4
 have hC0 : (fun W => Below w.heap.size w W ∧ Blk W w.heap.size #[.string a1, .string a2, .string b1, .string b2, .string c1, .string c2, .string d1, .string d2] 28 ∧ Blk W (w.heap.size + 1) #[.string r1, .string r2] 25) x0w.drew := ⟨hb1, S0, S1⟩
 refine wp_region_C (fun _ => false) (fun W => Below w.heap.size w W ∧ Blk W w.heap.size #[.string a1, .string a2, .string b1, .string b2, .string c1, .string c2, .string d1, .string d2] 28 ∧ Blk W (w.heap.size + 1) #[.string r1, .string r2] 25) (by kernel_rfl) ?_
 apply wpAnyC_ta 0 hC0
 ·intro W hW
  go_simp
  try rfl
 ·go_simp
  try rfl
 apply wpAnyC_ta 1 hC0
 ·intro W hW
  go_simp
  try rfl
 ·go_simp
  try rfl
 apply wpAnyC_ta 2 hC0
 ·intro W hW
  go_simp
  try rfl
 ·go_simp
  try rfl
 apply wpAnyC_ta 3 hC0
 ·intro W hW
  have e0 := hW.2.1.c0; have e1 := hW.2.1.c1; go_simp
  try rfl
 ·go_simp
  try rfl
 apply wpAnyC_ta 4 hC0
 ·intro W hW
  have e0 := hW.2.2.c0; have e1 := hW.2.2.c1; go_simp
  try rfl
 ·go_simp
  try rfl
 refine wZs (i := 5) (by kernel_rfl) rfl (fun K hK => ?_)
 go_simp
 go_at_call 19
 refine (A0 _ (hp.below hb1)).mono ?_
 rintro e W1 ⟨rfl, hW1⟩
 have hC1 : (fun W => Below w.heap.size w W ∧ Blk W w.heap.size #[.string a1, .string a2, .string b1, .string b2, .string c1, .string c2, .string d1, .string d2] 28 ∧ Blk W (w.heap.size + 1) #[.string r1, .string r2] 25) W1 := ⟨bZs hb1 hW1, S0.below hW1, S1.below hW1⟩
 refine hK _ _ (fun _ => hC1) ?_
 clear hK K
 apply wpAnyC_ta 6 hC1
 ·intro W hW
  go_simp
  try rfl
 ·go_simp
  try rfl
 apply wpAnyC_ta 7 hC1
 ·intro W hW
  go_simp
  try rfl
 ·go_simp
  try rfl
 apply wpAnyC_ta 8 hC1
 ·intro W hW
  go_simp
  try rfl
 ·go_simp
  try rfl
 apply wpAnyC_ta 9 hC1
 ·intro W hW
  go_simp
  try rfl
 ·go_simp
  try rfl
 clear A0
 have L4 := S4.below hW1
 have fz0 := L4.frozen 0
 have fz1 := L4.frozen 1
 have dz0 := L4.c0
 have dz1 := L4.c1
 refine wZs (i := 10) (by kernel_rfl) rfl (fun K hK => ?_)
 go_simp
 refine hK _ _ (fun _ => ⟨bZe (bZe (bZs hb1 hW1) hle4) hle4, ((S0.below hW1).far (p := ⟨w.heap.size + 4, 0, none⟩) n0 (.string e1)).far (p := ⟨w.heap.size + 4, 1, none⟩) n0 (.string e2), ((S1.below hW1).far (p := ⟨w.heap.size + 4, 0, none⟩) n1 (.string e1)).far (p := ⟨w.heap.size + 4, 1, none⟩) n1 (.string e2)⟩) ?_
 clear hK K hC0 hC1
 refine wpAnyC_done (by kernel_rfl) ?_ _
 have hB0 := bZe (j := 1) (v := (.string e2)) (bZe (j := 0) (v := (.string e1)) (bZs hb1 hW1) hle4) hle4
 have k0 := ((S0.below hW1).far (p := ⟨w.heap.size + 4, 0, none⟩) n0 (.string e1)).far (p := ⟨w.heap.size + 4, 1, none⟩) n0 (.string e2)
 have k1 := ((S1.below hW1).far (p := ⟨w.heap.size + 4, 0, none⟩) n1 (.string e1)).far (p := ⟨w.heap.size + 4, 1, none⟩) n1 (.string e2)
 have k2 := ((S2.below hW1).far (p := ⟨w.heap.size + 4, 0, none⟩) n2 (.string e1)).far (p := ⟨w.heap.size + 4, 1, none⟩) n2 (.string e2)
 have k3 := ((S3.below hW1).far (p := ⟨w.heap.size + 4, 0, none⟩) n3 (.string e1)).far (p := ⟨w.heap.size + 4, 1, none⟩) n3 (.string e2)
 have k4 : Blk ((W1.setCell ⟨w.heap.size + 4, 0, none⟩ (.string e1)).setCell ⟨w.heap.size + 4, 1, none⟩ (.string e2)) (w.heap.size + 4) #[.string e1, .string e2, .string ⟨#[]⟩, .string ⟨#[]⟩, .string ⟨#[]⟩, .string ⟨#[]⟩, .string ⟨#[]⟩, .string ⟨#[]⟩] 28 := (L4.set 0 (.string e1)).set 1 (.string e2)
 clear hb1 hW1 S0 S1 S2 S3 S4 L4 fz0 fz1 dz0 dz1
 generalize ((W1.setCell ⟨w.heap.size + 4, 0, none⟩ (.string e1)).setCell ⟨w.heap.size + 4, 1, none⟩ (.string e2)) = y0w at *
 go_wp2
 rw [rounds_succ]
 go_wp2
 have hb1 := bZd hB0
 have S0 := k0.drew
 have S1 := k1.drew
 have S2 := k2.drew
 have S3 := k3.drew
 have S4 := k4.drew
 generalize y0w = x1w at *
 clear hB0 k0 k1 k2 k3 k4
 have hC0 : (fun W => Below w.heap.size w W ∧ Blk W w.heap.size #[.string a1, .string a2, .string b1, .string b2, .string c1, .string c2, .string d1, .string d2] 28 ∧ Blk W (w.heap.size + 1) #[.string r1, .string r2] 25) x1w.drew := ⟨hb1, S0, S1⟩
 refine wp_region_C (fun _ => false) (fun W => Below w.heap.size w W ∧ Blk W w.heap.size #[.string a1, .string a2, .string b1, .string b2, .string c1, .string c2, .string d1, .string d2] 28 ∧ Blk W (w.heap.size + 1) #[.string r1, .string r2] 25) (by kernel_rfl) ?_
 apply wpAnyC_ta 0 hC0
 ·intro W hW
  go_simp
  try rfl
 ·go_simp
  try rfl
 apply wpAnyC_ta 1 hC0
 ·intro W hW
  go_simp
  try rfl
 ·go_simp
  try rfl
 apply wpAnyC_ta 2 hC0
 ·intro W hW
  go_simp
  try rfl
 ·go_simp
  try rfl
 apply wpAnyC_ta 3 hC0
 ·intro W hW
  have e0 := hW.2.1.c2; have e1 := hW.2.1.c3; go_simp
  try rfl
 ·go_simp
  try rfl
 apply wpAnyC_ta 4 hC0
 ·intro W hW
  have e0 := hW.2.2.c0; have e1 := hW.2.2.c1; go_simp
  try rfl
 ·go_simp
  try rfl
 refine wZs (i := 5) (by kernel_rfl) rfl (fun K hK => ?_)
 go_simp
 go_at_call 19
 refine (A1 _ (hp.below hb1)).mono ?_
 rintro e W1 ⟨rfl, hW1⟩
 have hC1 : (fun W => Below w.heap.size w W ∧ Blk W w.heap.size #[.string a1, .string a2, .string b1, .string b2, .string c1, .string c2, .string d1, .string d2] 28 ∧ Blk W (w.heap.size + 1) #[.string r1, .string r2] 25) W1 := ⟨bZs hb1 hW1, S0.below hW1, S1.below hW1⟩
 refine hK _ _ (fun _ => hC1) ?_
 clear hK K
 apply wpAnyC_ta 6 hC1
 ·intro W hW
  go_simp
  try rfl
 ·go_simp
  try rfl
 apply wpAnyC_ta 7 hC1
 ·intro W hW
  go_simp
  try rfl
 ·go_simp
  try rfl
 apply wpAnyC_ta 8 hC1
 ·intro W hW
  go_simp
  try rfl
 ·go_simp
  try rfl
 apply wpAnyC_ta 9 hC1
 ·intro W hW
  go_simp
  try rfl
 ·go_simp
  try rfl
 clear A1
 have L4 := S4.below hW1
 have fz0 := L4.frozen 2
 have fz1 := L4.frozen 3
 have dz0 := L4.c2
 have dz1 := L4.c3
 refine wZs (i := 10) (by kernel_rfl) rfl (fun K hK => ?_)
 go_simp
 refine hK _ _ (fun _ => ⟨bZe (bZe (bZs hb1 hW1) hle4) hle4, ((S0.below hW1).far (p := ⟨w.heap.size + 4, 2, none⟩) n0 (.string f1)).far (p := ⟨w.heap.size + 4, 3, none⟩) n0 (.string f2), ((S1.below hW1).far (p := ⟨w.heap.size + 4, 2, none⟩) n1 (.string f1)).far (p := ⟨w.heap.size + 4, 3, none⟩) n1 (.string f2)⟩) ?_
 clear hK K hC0 hC1
 refine wpAnyC_done (by kernel_rfl) ?_ _
 have hB0 := bZe (j := 3) (v := (.string f2)) (bZe (j := 2) (v := (.string f1)) (bZs hb1 hW1) hle4) hle4
 have k0 := ((S0.below hW1).far (p := ⟨w.heap.size + 4, 2, none⟩) n0 (.string f1)).far (p := ⟨w.heap.size + 4, 3, none⟩) n0 (.string f2)
 have k1 := ((S1.below hW1).far (p := ⟨w.heap.size + 4, 2, none⟩) n1 (.string f1)).far (p := ⟨w.heap.size + 4, 3, none⟩) n1 (.string f2)
 have k2 := ((S2.below hW1).far (p := ⟨w.heap.size + 4, 2, none⟩) n2 (.string f1)).far (p := ⟨w.heap.size + 4, 3, none⟩) n2 (.string f2)
 have k3 := ((S3.below hW1).far (p := ⟨w.heap.size + 4, 2, none⟩) n3 (.string f1)).far (p := ⟨w.heap.size + 4, 3, none⟩) n3 (.string f2)
 have k4 : Blk ((W1.setCell ⟨w.heap.size + 4, 2, none⟩ (.string f1)).setCell ⟨w.heap.size + 4, 3, none⟩ (.string f2)) (w.heap.size + 4) #[.string e1, .string e2, .string f1, .string f2, .string ⟨#[]⟩, .string ⟨#[]⟩, .string ⟨#[]⟩, .string ⟨#[]⟩] 28 := (L4.set 2 (.string f1)).set 3 (.string f2)
 clear hb1 hW1 S0 S1 S2 S3 S4 L4 fz0 fz1 dz0 dz1
 generalize ((W1.setCell ⟨w.heap.size + 4, 2, none⟩ (.string f1)).setCell ⟨w.heap.size + 4, 3, none⟩ (.string f2)) = y1w at *
 go_wp2
 rw [rounds_succ]
 go_wp2
 have hb1 := bZd hB0
 have S0 := k0.drew
 have S1 := k1.drew
 have S2 := k2.drew
 have S3 := k3.drew
 have S4 := k4.drew
 generalize y1w = x2w at *
 clear hB0 k0 k1 k2 k3 k4
 have hC0 : (fun W => Below w.heap.size w W ∧ Blk W w.heap.size #[.string a1, .string a2, .string b1, .string b2, .string c1, .string c2, .string d1, .string d2] 28 ∧ Blk W (w.heap.size + 1) #[.string r1, .string r2] 25) x2w.drew := ⟨hb1, S0, S1⟩
 refine wp_region_C (fun _ => false) (fun W => Below w.heap.size w W ∧ Blk W w.heap.size #[.string a1, .string a2, .string b1, .string b2, .string c1, .string c2, .string d1, .string d2] 28 ∧ Blk W (w.heap.size + 1) #[.string r1, .string r2] 25) (by kernel_rfl) ?_
 apply wpAnyC_ta 0 hC0
 ·intro W hW
  go_simp
  try rfl
 ·go_simp
  try rfl
 apply wpAnyC_ta 1 hC0
 ·intro W hW
  go_simp
  try rfl
 ·go_simp
  try rfl
 apply wpAnyC_ta 2 hC0
 ·intro W hW
  go_simp
  try rfl
 ·go_simp
  try rfl
 apply wpAnyC_ta 3 hC0
 ·intro W hW
  have e0 := hW.2.1.c4; have e1 := hW.2.1.c5; go_simp
  try rfl
 ·go_simp
  try rfl
 apply wpAnyC_ta 4 hC0
 ·intro W hW
  have e0 := hW.2.2.c0; have e1 := hW.2.2.c1; go_simp
  try rfl
 ·go_simp
  try rfl
 refine wZs (i := 5) (by kernel_rfl) rfl (fun K hK => ?_)
 go_simp
 go_at_call 20
 refine (A2 _ (hp.below hb1)).mono ?_
 rintro e W1 ⟨rfl, hW1⟩
 have hC1 : (fun W => Below w.heap.size w W ∧ Blk W w.heap.size #[.string a1, .string a2, .string b1, .string b2, .string c1, .string c2, .string d1, .string d2] 28 ∧ Blk W (w.heap.size + 1) #[.string r1, .string r2] 25) W1 := ⟨bZs hb1 hW1, S0.below hW1, S1.below hW1⟩
 refine hK _ _ (fun _ => hC1) ?_
 clear hK K
 apply wpAnyC_ta 6 hC1
 ·intro W hW
  go_simp
  try rfl
 ·go_simp
  try rfl
 apply wpAnyC_ta 7 hC1
 ·intro W hW
  go_simp
  try rfl
 ·go_simp
  try rfl
 apply wpAnyC_ta 8 hC1
 ·intro W hW
  go_simp
  try rfl
 ·go_simp
  try rfl
 apply wpAnyC_ta 9 hC1
 ·intro W hW
  go_simp
  try rfl
 ·go_simp
  try rfl
 clear A2
 have L4 := S4.below hW1
 have fz0 := L4.frozen 4
 have fz1 := L4.frozen 5
 have dz0 := L4.c4
 have dz1 := L4.c5
 refine wZs (i := 10) (by kernel_rfl) rfl (fun K hK => ?_)
 go_simp
 refine hK _ _ (fun _ => ⟨bZe (bZe (bZs hb1 hW1) hle4) hle4, ((S0.below hW1).far (p := ⟨w.heap.size + 4, 4, none⟩) n0 (.string g1)).far (p := ⟨w.heap.size + 4, 5, none⟩) n0 (.string g2), ((S1.below hW1).far (p := ⟨w.heap.size + 4, 4, none⟩) n1 (.string g1)).far (p := ⟨w.heap.size + 4, 5, none⟩) n1 (.string g2)⟩) ?_
 clear hK K hC0 hC1
 refine wpAnyC_done (by kernel_rfl) ?_ _
 have hB0 := bZe (j := 5) (v := (.string g2)) (bZe (j := 4) (v := (.string g1)) (bZs hb1 hW1) hle4) hle4
 have k0 := ((S0.below hW1).far (p := ⟨w.heap.size + 4, 4, none⟩) n0 (.string g1)).far (p := ⟨w.heap.size + 4, 5, none⟩) n0 (.string g2)
 have k1 := ((S1.below hW1).far (p := ⟨w.heap.size + 4, 4, none⟩) n1 (.string g1)).far (p := ⟨w.heap.size + 4, 5, none⟩) n1 (.string g2)
 have k2 := ((S2.below hW1).far (p := ⟨w.heap.size + 4, 4, none⟩) n2 (.string g1)).far (p := ⟨w.heap.size + 4, 5, none⟩) n2 (.string g2)
 have k3 := ((S3.below hW1).far (p := ⟨w.heap.size + 4, 4, none⟩) n3 (.string g1)).far (p := ⟨w.heap.size + 4, 5, none⟩) n3 (.string g2)
 have k4 : Blk ((W1.setCell ⟨w.heap.size + 4, 4, none⟩ (.string g1)).setCell ⟨w.heap.size + 4, 5, none⟩ (.string g2)) (w.heap.size + 4) #[.string e1, .string e2, .string f1, .string f2, .string g1, .string g2, .string ⟨#[]⟩, .string ⟨#[]⟩] 28 := (L4.set 4 (.string g1)).set 5 (.string g2)
 clear hb1 hW1 S0 S1 S2 S3 S4 L4 fz0 fz1 dz0 dz1
 generalize ((W1.setCell ⟨w.heap.size + 4, 4, none⟩ (.string g1)).setCell ⟨w.heap.size + 4, 5, none⟩ (.string g2)) = y2w at *
 go_wp2
 rw [rounds_succ]
 go_wp2
 have hb1 := bZd hB0
 have S0 := k0.drew
 have S1 := k1.drew
 have S2 := k2.drew
 have S3 := k3.drew
 have S4 := k4.drew
 generalize y2w = x3w at *
 clear hB0 k0 k1 k2 k3 k4
 have hC0 : (fun W => Below w.heap.size w W ∧ Blk W w.heap.size #[.string a1, .string a2, .string b1, .string b2, .string c1, .string c2, .string d1, .string d2] 28 ∧ Blk W (w.heap.size + 1) #[.string r1, .string r2] 25) x3w.drew := ⟨hb1, S0, S1⟩
 refine wp_region_C (fun _ => false) (fun W => Below w.heap.size w W ∧ Blk W w.heap.size #[.string a1, .string a2, .string b1, .string b2, .string c1, .string c2, .string d1, .string d2] 28 ∧ Blk W (w.heap.size + 1) #[.string r1, .string r2] 25) (by kernel_rfl) ?_
 apply wpAnyC_ta 0 hC0
 ·intro W hW
  go_simp
  try rfl
 ·go_simp
  try rfl
 apply wpAnyC_ta 1 hC0
 ·intro W hW
  go_simp
  try rfl
 ·go_simp
  try rfl
 apply wpAnyC_ta 2 hC0
 ·intro W hW
  go_simp
  try rfl
 ·go_simp
  try rfl
 apply wpAnyC_ta 3 hC0
 ·intro W hW
  have e0 := hW.2.1.c6; have e1 := hW.2.1.c7; go_simp
  try rfl
 ·go_simp
  try rfl
 apply wpAnyC_ta 4 hC0
 ·intro W hW
  have e0 := hW.2.2.c0; have e1 := hW.2.2.c1; go_simp
  try rfl
 ·go_simp
  try rfl
 refine wZs (i := 5) (by kernel_rfl) rfl (fun K hK => ?_)
 go_simp
 go_at_call 20
 refine (A3 _ (hp.below hb1)).mono ?_
 rintro e W1 ⟨rfl, hW1⟩
 have hC1 : (fun W => Below w.heap.size w W ∧ Blk W w.heap.size #[.string a1, .string a2, .string b1, .string b2, .string c1, .string c2, .string d1, .string d2] 28 ∧ Blk W (w.heap.size + 1) #[.string r1, .string r2] 25) W1 := ⟨bZs hb1 hW1, S0.below hW1, S1.below hW1⟩
 refine hK _ _ (fun _ => hC1) ?_
 clear hK K
 apply wpAnyC_ta 6 hC1
 ·intro W hW
  go_simp
  try rfl
 ·go_simp
  try rfl
 apply wpAnyC_ta 7 hC1
 ·intro W hW
  go_simp
  try rfl
 ·go_simp
  try rfl
 apply wpAnyC_ta 8 hC1
 ·intro W hW
  go_simp
  try rfl
 ·go_simp
  try rfl
 apply wpAnyC_ta 9 hC1
 ·intro W hW
  go_simp
  try rfl
 ·go_simp
  try rfl
 clear A3
 have L4 := S4.below hW1
 have fz0 := L4.frozen 6
 have fz1 := L4.frozen 7
 have dz0 := L4.c6
 have dz1 := L4.c7
 refine wZs (i := 10) (by kernel_rfl) rfl (fun K hK => ?_)
 go_simp
 refine hK _ _ (fun _ => ⟨bZe (bZe (bZs hb1 hW1) hle4) hle4, ((S0.below hW1).far (p := ⟨w.heap.size + 4, 6, none⟩) n0 (.string h1)).far (p := ⟨w.heap.size + 4, 7, none⟩) n0 (.string h2), ((S1.below hW1).far (p := ⟨w.heap.size + 4, 6, none⟩) n1 (.string h1)).far (p := ⟨w.heap.size + 4, 7, none⟩) n1 (.string h2)⟩) ?_
 clear hK K hC0 hC1
 refine wpAnyC_done (by kernel_rfl) ?_ _
 have hB0 := bZe (j := 7) (v := (.string h2)) (bZe (j := 6) (v := (.string h1)) (bZs hb1 hW1) hle4) hle4
 have k0 := ((S0.below hW1).far (p := ⟨w.heap.size + 4, 6, none⟩) n0 (.string h1)).far (p := ⟨w.heap.size + 4, 7, none⟩) n0 (.string h2)
 have k1 := ((S1.below hW1).far (p := ⟨w.heap.size + 4, 6, none⟩) n1 (.string h1)).far (p := ⟨w.heap.size + 4, 7, none⟩) n1 (.string h2)
 have k2 := ((S2.below hW1).far (p := ⟨w.heap.size + 4, 6, none⟩) n2 (.string h1)).far (p := ⟨w.heap.size + 4, 7, none⟩) n2 (.string h2)
 have k3 := ((S3.below hW1).far (p := ⟨w.heap.size + 4, 6, none⟩) n3 (.string h1)).far (p := ⟨w.heap.size + 4, 7, none⟩) n3 (.string h2)
 have k4 : Blk ((W1.setCell ⟨w.heap.size + 4, 6, none⟩ (.string h1)).setCell ⟨w.heap.size + 4, 7, none⟩ (.string h2)) (w.heap.size + 4) #[.string e1, .string e2, .string f1, .string f2, .string g1, .string g2, .string h1, .string h2] 28 := (L4.set 6 (.string h1)).set 7 (.string h2)
 clear hb1 hW1 S0 S1 S2 S3 S4 L4 fz0 fz1 dz0 dz1
 generalize ((W1.setCell ⟨w.heap.size + 4, 6, none⟩ (.string h1)).setCell ⟨w.heap.size + 4, 7, none⟩ (.string h2)) = y3w at *
 go_wp2
 have x_0 := k2.c0
 have x_1 := k2.c1
 have y_0 := k3.c0
 have y_1 := k3.c1
 have r_0 := k1.c0
 have r_1 := k1.c1
 have i_0 := k4.c0
 have i_1 := k4.c1
 have i_2 := k4.c2
 have i_3 := k4.c3
 have i_4 := k4.c4
 have i_5 := k4.c5
 have i_6 := k4.c6
 have i_7 := k4.c7
 have TK1 : True := trivial
 have TK2 : True := trivial
 have TK3 : True := trivial
 have TK4 : True := trivial
 have TK5 : True := trivial
 have TK6 : True := trivial
 have TK7 : True := trivial
 rw [rounds_succ]
 go_wp2_with ((first | (go_at_call 50; clear TK1; refine (B0 _ (hp.below hB0)).mono ?_; clear B0; rintro e u1w ⟨rfl, hb⟩; replace hb := bZa hb (.cells #[.string v1, .string v2] 25); have Kv := Blk.new u1w #[.string v1, .string v2] 25) | (go_at_call 50; clear TK2; refine (B1 _ (hp.below hB0)).mono ?_; clear B1; rintro e u2w ⟨rfl, hb⟩; replace hb := bZa hb (.cells #[.string z1, .string z2] 25); have Kz := Blk.new u2w #[.string z1, .string z2] 25) | (go_at_call 51; clear TK3; refine (M0 _ (hp.below hB0)).mono ?_; clear M0; rintro e u3w ⟨rfl, hb⟩; replace hb := bZa hb (.cells #[.string i1, .string i2] 25); have Ki := Blk.new u3w #[.string i1, .string i2] 25) | (go_at_call 51; clear TK4; refine (M1 _ (hp.below hB0)).mono ?_; clear M1; rintro e u4w ⟨rfl, hb⟩; replace hb := bZa hb (.cells #[.string j1, .string j2] 25); have Kj := Blk.new u4w #[.string j1, .string j2] 25) | (go_at_call 19; clear TK5; refine (M2 _ (hp.below hB0)).mono ?_; clear M2; rintro e u5w ⟨rfl, hb⟩; replace hb := bZa hb (.cells #[.string u1, .string u2] 25); have Ku := Blk.new u5w #[.string u1, .string u2] 25) | (go_at_call 51; clear TK6; refine (M3 _ (hp.below hB0)).mono ?_; clear M3; rintro e u6w ⟨rfl, hb⟩; replace hb := bZa hb (.cells #[.string o1, .string o2] 25); have Ko := Blk.new u6w #[.string o1, .string o2] 25; have Ko0 := Ko.c0; have Ko1 := Ko.c1) | (go_at_call 18; clear TK7; refine (M4 _ (hp.below hB0)).mono ?_; clear M4; rintro e _ ⟨rfl, hb⟩; replace Ko := Ko.below hb; replace Ko0 := Ko.c0; replace Ko1 := Ko.c1)); replace k0 := k0.below hb; replace k1 := k1.below hb; replace k2 := k2.below hb; replace k3 := k3.below hb; replace k4 := k4.below hb; (try replace Kv := Kv.below hb); (try replace Kz := Kz.below hb); (try replace Ki := Ki.below hb); (try replace Kj := Kj.below hb); (try replace Ku := Ku.below hb); replace hB0 := bZs hB0 hb; clear hb; replace x_0 := k2.c0; replace x_1 := k2.c1; replace y_0 := k3.c0; replace y_1 := k3.c1; replace r_0 := k1.c0; replace r_1 := k1.c1; replace i_0 := k4.c0; replace i_1 := k4.c1; replace i_2 := k4.c2; replace i_3 := k4.c3; replace i_4 := k4.c4; replace i_5 := k4.c5; replace i_6 := k4.c6; replace i_7 := k4.c7; replace Kv0 := Kv.c0; replace Kv1 := Kv.c1; (try replace Kz0 := Kz.c0); (try replace Kz1 := Kz.c1); (try replace Ki0 := Ki.c0); (try replace Ki1 := Ki.c1); (try replace Kj0 := Kj.c0); (try replace Kj1 := Kj.c1); (try replace Ku0 := Ku.c0); (try replace Ku1 := Ku.c1))
 go_ret
 exact ⟨by rw [← ZZ.out]; rfl, hB0⟩
end Go.Proofs.YtociicfjhgfgpaaGreatDoor
namespace Go.Proofs.YtociicfjhgfgpaaGreatDoor
open Go.RowKit Go.Proofs.YtociicfjhgfgpaaGreatDoorW.PrintWords
theorem sn_inp : Inp (mkRat 0 1) (mkRat 0 1) (mkRat 6 1) (mkRat 4 1) (mkRat 1 1) := ⟨⟨by decide +kernel, by decide +kernel⟩, ⟨by decide +kernel, by decide +kernel⟩, ⟨by decide +kernel, by decide +kernel⟩, ⟨by decide +kernel, by decide +kernel⟩, ⟨by decide +kernel, by decide +kernel⟩, by decide +kernel, by decide +kernel, by decide +kernel⟩
theorem sn_inp2 : Inp (mkRat 0 1) (mkRat 0 1) (mkRat 6 1) (mkRat 4 1) (mkRat 5 2) := ⟨⟨by decide +kernel, by decide +kernel⟩, ⟨by decide +kernel, by decide +kernel⟩, ⟨by decide +kernel, by decide +kernel⟩, ⟨by decide +kernel, by decide +kernel⟩, ⟨by decide +kernel, by decide +kernel⟩, by decide +kernel, by decide +kernel, by decide +kernel⟩
theorem sn_fits : fitsP (mkRat 0 1) (mkRat 0 1) (mkRat 6 1) (mkRat 4 1) (mkRat 1 1) = true := by decide +kernel
theorem sn_not : fitsP (mkRat 0 1) (mkRat 0 1) (mkRat 6 1) (mkRat 4 1) (mkRat 5 2) = false := by decide +kernel
theorem sn_rws : Rows (Pkt.of (mkRat 0 1) (mkRat 0 1) (mkRat 6 1) (mkRat 4 1) (mkRat 1 1)) := ⟨⟨by decide +kernel, by decide +kernel⟩, fun k hk => match k, hk with
 | 0, _ => ⟨by decide +kernel, by decide +kernel⟩
 | 1, _ => ⟨by decide +kernel, by decide +kernel⟩
 | 2, _ => ⟨by decide +kernel, by decide +kernel⟩
 | 3, _ => ⟨by decide +kernel, by decide +kernel⟩
 | 4, _ => ⟨by decide +kernel, by decide +kernel⟩
 | 5, _ => ⟨by decide +kernel, by decide +kernel⟩
 | 6, _ => ⟨by decide +kernel, by decide +kernel⟩
 | 7, _ => ⟨by decide +kernel, by decide +kernel⟩
 | 8, _ => ⟨by decide +kernel, by decide +kernel⟩
 | 9, _ => ⟨by decide +kernel, by decide +kernel⟩
 | 10, _ => ⟨by decide +kernel, by decide +kernel⟩
 | 11, _ => ⟨by decide +kernel, by decide +kernel⟩
 | _ + 12, h => absurd h (by omega)⟩
theorem sn_len : (passL (Pkt.of (mkRat 0 1) (mkRat 0 1) (mkRat 6 1) (mkRat 4 1) (mkRat 1 1)) 13).length ≤ 12 := by decide +kernel
theorem sn_rows : passV (Pkt.of (mkRat 0 1) (mkRat 0 1) (mkRat 6 1) (mkRat 4 1) (mkRat 1 1)) (mkRat 1 1) = [(mkRat 1 1, mkRat 1 1, mkRat 1 1, mkRat 3 1, mkRat 1 1), (mkRat 5 1, mkRat 1 1, mkRat 5 1, mkRat 3 1, mkRat 1 1), (mkRat 1 1, mkRat 1 1, mkRat 5 1, mkRat 1 1, mkRat 1 1), (mkRat 1 1, mkRat 3 1, mkRat 5 1, mkRat 3 1, mkRat 1 1)] := by decide +kernel
theorem sn_r0 : 0 < (Pkt.of (mkRat 0 1) (mkRat 0 1) (mkRat 6 1) (mkRat 4 1) (mkRat 1 1)).r := by decide +kernel
theorem sn_in : inR (sideR (mkRat 0 1) (mkRat 1 1)) (reachR (Pkt.of (mkRat 0 1) (mkRat 0 1) (mkRat 6 1) (mkRat 4 1) (mkRat 1 1))) = true := by
 rw [reach_in _ sn_r0]
 simp only [inR_rect, inR_disc]
 decide +kernel
theorem sn_out : inR (sideR (mkRat 1 4) (mkRat 1 4)) (reachR (Pkt.of (mkRat 0 1) (mkRat 0 1) (mkRat 6 1) (mkRat 4 1) (mkRat 1 1))) = false := by
 rw [reach_in _ sn_r0]
 simp only [inR_rect, inR_disc]
 decide +kernel
theorem sm_q {n : Int} (h : n.natAbs < 100) : Sm 2 (mkRat n 4) := sm_mk h (by decide) (by decide)
theorem smP_of {x0 y0 x1 y1 r : Rat} (h0 : Sm 2 x0) (h1 : Sm 2 y0) (h2 : Sm 2 x1) (h3 : Sm 2 y1) (h4 : Sm 2 r) : smP 10 (Pkt.of x0 y0 x1 y1 r) where
 a := (sm_add h0 h4).le (by decide)
 b := (sm_add h1 h4).le (by decide)
 c := (sm_sub h2 h4).le (by decide)
 d := (sm_sub h3 h4).le (by decide)
 x0 := h0.le (by decide)
 y0 := h1.le (by decide)
 x1 := h2.le (by decide)
 y1 := h3.le (by decide)
 r := h4.le (by decide)
 nx0 := (sm_neg h0).le (by decide)
 ny0 := (sm_neg h1).le (by decide)
 na := (sm_neg (sm_add h0 h4)).le (by decide)
 nb := (sm_neg (sm_add h1 h4)).le (by decide)
 rr := (sm_mul (by decide) h4 h4).le (by decide)
 one := ⟨by decide, by decide⟩
 mone := ⟨by decide, by decide⟩
 zero := ⟨by decide, by decide⟩
theorem sn_smP : smP 10 (Pkt.of (mkRat 0 1) (mkRat 0 1) (mkRat 6 1) (mkRat 4 1) (mkRat 1 1)) := smP_of ⟨by decide, by decide⟩ ⟨by decide, by decide⟩ ⟨by decide, by decide⟩ ⟨by decide, by decide⟩ ⟨by decide, by decide⟩
end Go.Proofs.YtociicfjhgfgpaaGreatDoor

/- region: the curves' distances, Side: the walks. -/
import Derived.Test.YtociicfjhgfgpaaGreatDoorR23
import Derived.Test.YtociicfjhgfgpaaGreatDoorR22
set_option linter.unusedVariables false
set_option linter.unusedSimpArgs false
set_option maxHeartbeats 8000000
set_option maxRecDepth 100000
namespace Go.Proofs.YtociicfjhgfgpaaGreatDoor
open Go.RowKit Go.Shelf Go.Lib Go.Proofs.YtociicfjhgfgpaaGreatDoorW.PrintWords
theorem rg_line_distance (g : Nat) (a b' c x y : Rat) (w : World) (hp : Pow w) (hk : Blk w g #[.bool false] 154) (ha : Sq a) (hb : Sq b') (hx : Sq x) (hy : Sq y) (h1 : Sq (a * x)) (h2 : Sq (b' * y)) :
  Calls Tryz.prog 306 #[.agg #[], .pointer (some ⟨g, 0, none⟩), cv (1, a, b', c), rv x, rv y] w fun e w' => e = .returned (rv (a * x + b' * y)) ∧ Below w.heap.size w w' := by
 have M1 := fun W hp hk => rg_mul g a x W hp hk ha hx
 have M2 := fun W hp hk => rg_mul g b' y W hp hk hb hy
 have M3 := fun W hp hk => rg_add g (a * x) (b' * y) W hp hk h1 h2
 unfold rv cv at *
 dsimp only at *
 generalize hgn0 : itx (a * x + b' * y).num = r1 at *
 generalize hgn1 : itx ((a * x + b' * y).den : Int) = r2 at *
 generalize hgn2 : itx (a * x).num = p1 at *
 generalize hgn3 : itx ((a * x).den : Int) = p2 at *
 generalize hgn4 : itx (b' * y).num = q1 at *
 generalize hgn5 : itx ((b' * y).den : Int) = q2 at *
 generalize hgn6 : itx (a).num = a1 at *
 generalize hgn7 : itx ((a).den : Int) = a2 at *
 generalize hgn8 : itx (b').num = b1 at *
 generalize hgn9 : itx ((b').den : Int) = b2 at *
 generalize hgn10 : itx (c).num = c1 at *
 generalize hgn11 : itx ((c).den : Int) = c2 at *
 generalize hgn12 : itx (x).num = x1 at *
 generalize hgn13 : itx ((x).den : Int) = x2 at *
 generalize hgn14 : itx (y).num = y1 at *
 generalize hgn15 : itx ((y).den : Int) = y2 at *
 clear hgn0 hgn1 hgn2 hgn3 hgn4 hgn5 hgn6 hgn7 hgn8 hgn9 hgn10 hgn11 hgn12 hgn13 hgn14 hgn15
 obtain ⟨hB0, k0, k1, k2, k3, k4⟩ := news5 w #[] 214 #[.int .i64 1, .string a1, .string a2, .string b1, .string b2, .string c1, .string c2] 91 #[.string x1, .string x2] 25 #[.string y1, .string y2] 25 #[.string ⟨#[]⟩, .string ⟨#[]⟩] 25
 have kb := hk.below hB0
 go_enter Tryz.func306, Tryz.ntmps306
 go_wp2
 generalize hw5 : (((((w.alloc (.cells #[] 214)).alloc (.cells #[.int .i64 1, .string a1, .string a2, .string b1, .string b2, .string c1, .string c2] 91)).alloc (.cells #[.string x1, .string x2] 25)).alloc (.cells #[.string y1, .string y2] 25)).alloc (.cells #[.string ⟨#[]⟩, .string ⟨#[]⟩] 25)) = w5 at *
 refine rZu (fun i => i == 12) (fun W => Below w5.drew.heap.size w5.drew W) (by kernel_rfl) (cZb _) (Below.refl _ _) ?_
 apply wpU_d 0 11
 apply wpU_d 1 12
 apply wpU_d 2 13
 refine wpU_g 3 14 (h1 := by intro W hW; have hC := k1.drew.below hW; have e1 := hC.cell 1; have e2 := hC.cell 2; have e3 := hC.cell 3; have e4 := hC.cell 4; clear hC; obtain ⟨f0, f1, _, _⟩ := (k2.drew.below hW).two; obtain ⟨g0, g1, _, _⟩ := (k3.drew.below hW).two; go_simp; try rfl) (h2 := ?_)
 refine wpU_g 4 15 (h1 := by intro W hW; have hC := k1.drew.below hW; have e1 := hC.cell 1; have e2 := hC.cell 2; have e3 := hC.cell 3; have e4 := hC.cell 4; clear hC; obtain ⟨f0, f1, _, _⟩ := (k2.drew.below hW).two; obtain ⟨g0, g1, _, _⟩ := (k3.drew.below hW).two; go_simp; try rfl) (h2 := ?_)
 apply wpU_d 6 17
 apply wpU_d 7 18
 refine wpU_g 8 19 (h1 := by intro W hW; have hC := k1.drew.below hW; have e1 := hC.cell 1; have e2 := hC.cell 2; have e3 := hC.cell 3; have e4 := hC.cell 4; clear hC; obtain ⟨f0, f1, _, _⟩ := (k2.drew.below hW).two; obtain ⟨g0, g1, _, _⟩ := (k3.drew.below hW).two; go_simp; try rfl) (h2 := ?_)
 refine wpU_g 9 20 (h1 := by intro W hW; have hC := k1.drew.below hW; have e1 := hC.cell 1; have e2 := hC.cell 2; have e3 := hC.cell 3; have e4 := hC.cell 4; clear hC; obtain ⟨f0, f1, _, _⟩ := (k2.drew.below hW).two; obtain ⟨g0, g1, _, _⟩ := (k3.drew.below hW).two; go_simp; try rfl) (h2 := ?_)
 refine wpU_ca 5 16 Tryz.func156 (fun W hW => M1 W (hp.below (bZs (bZd hB0) hW)) (kb.drew.below hW)) ?_
 refine wpU_ca 10 21 Tryz.func156 (fun W hW => M2 W (hp.below (bZs (bZd hB0) hW)) (kb.drew.below hW)) ?_
 refine wpU_ca 11 22 Tryz.func310 (fun W hW => M3 W (hp.below (bZs (bZd hB0) hW)) (kb.drew.below hW)) ?_
 refine wpU_late (by kernel_rfl) (fun W1 hW1 => ?_)
 obtain ⟨j0, j1, l0, l1⟩ := (k4.drew.below hW1).two
 refine wpAny_last (i := 12) (by kernel_rfl) rfl (by kernel_rfl) (by rfl) (fun K hK => ?_)
 go_simp
 refine hK _ _ ?_
 clear hK K
 go_wp2
 have hB1 := bZs (bZd hB0) hW1
 have k4' := k4.drew.below hW1
 refine bodyPost_ret (rZs rfl (.cell (w.heap.size + 4) 25 #[.string r1, .string r2] (0, 0) _ rfl ((k4'.set 0 (.string r1)).set 1 (.string r2)) Tryz.underlying25 rfl (by kernel_rfl) .nil)) rfl ?_
 exact ⟨rfl, bZe (bZe hB1 (by omega)) (by omega)⟩
theorem rg_circle_distance (g : Nat) (a b' c x y : Rat) (w : World) (hp : Pow w) (hk : Blk w g #[.bool false] 154) (ha : Sq a) (hb : Sq b') (hx : Sq x) (hy : Sq y) (h1 : Sq (x - a)) (h2 : Sq (y - b')) (h3 : Sq ((x - a) * (x - a))) (h4 : Sq ((y - b') * (y - b'))) :
  Calls Tryz.prog 311 #[.agg #[], .pointer (some ⟨g, 0, none⟩), cv (2, a, b', c), rv x, rv y] w fun e w' => e = .returned (rv ((x - a) * (x - a) + (y - b') * (y - b'))) ∧ Below w.heap.size w w' := by
 have S1 := fun W hp hk => rg_sub g x a W hp hk hx ha
 have S2 := fun W hp hk => rg_sub g y b' W hp hk hy hb
 have M1 := fun W hp hk => rg_mul g (x - a) (x - a) W hp hk h1 h1
 have M2 := fun W hp hk => rg_mul g (y - b') (y - b') W hp hk h2 h2
 have M3 := fun W hp hk => rg_add g ((x - a) * (x - a)) ((y - b') * (y - b')) W hp hk h3 h4
 unfold rv cv at *
 dsimp only at *
 generalize hgn0 : itx ((x - a) * (x - a) + (y - b') * (y - b')).num = r1 at *
 generalize hgn1 : itx (((x - a) * (x - a) + (y - b') * (y - b')).den : Int) = r2 at *
 generalize hgn2 : itx ((x - a) * (x - a)).num = p1 at *
 generalize hgn3 : itx (((x - a) * (x - a)).den : Int) = p2 at *
 generalize hgn4 : itx ((y - b') * (y - b')).num = q1 at *
 generalize hgn5 : itx (((y - b') * (y - b')).den : Int) = q2 at *
 generalize hgn6 : itx (x - a).num = d1 at *
 generalize hgn7 : itx ((x - a).den : Int) = d2 at *
 generalize hgn8 : itx (y - b').num = e1 at *
 generalize hgn9 : itx ((y - b').den : Int) = e2 at *
 generalize hgn10 : itx (a).num = a1 at *
 generalize hgn11 : itx ((a).den : Int) = a2 at *
 generalize hgn12 : itx (b').num = b1 at *
 generalize hgn13 : itx ((b').den : Int) = b2 at *
 generalize hgn14 : itx (c).num = c1 at *
 generalize hgn15 : itx ((c).den : Int) = c2 at *
 generalize hgn16 : itx (x).num = x1 at *
 generalize hgn17 : itx ((x).den : Int) = x2 at *
 generalize hgn18 : itx (y).num = y1 at *
 generalize hgn19 : itx ((y).den : Int) = y2 at *
 clear hgn0 hgn1 hgn2 hgn3 hgn4 hgn5 hgn6 hgn7 hgn8 hgn9 hgn10 hgn11 hgn12 hgn13 hgn14 hgn15 hgn16 hgn17 hgn18 hgn19
 obtain ⟨hB0, k0, k1, k2, k3, k4⟩ := news5 w #[] 215 #[.int .i64 2, .string a1, .string a2, .string b1, .string b2, .string c1, .string c2] 91 #[.string x1, .string x2] 25 #[.string y1, .string y2] 25 #[.string ⟨#[]⟩, .string ⟨#[]⟩] 25
 have kb := hk.below hB0
 go_enter Tryz.func311, Tryz.ntmps311
 go_wp2
 generalize hw5 : (((((w.alloc (.cells #[] 215)).alloc (.cells #[.int .i64 2, .string a1, .string a2, .string b1, .string b2, .string c1, .string c2] 91)).alloc (.cells #[.string x1, .string x2] 25)).alloc (.cells #[.string y1, .string y2] 25)).alloc (.cells #[.string ⟨#[]⟩, .string ⟨#[]⟩] 25)) = w5 at *
 refine rZu (fun i => i == 12 || i == 13) (fun W => Below w5.drew.heap.size w5.drew W) (by kernel_rfl) (cZb _) (Below.refl _ _) ?_
 apply wpU_d 0 13
 refine wpU_g 1 14 (h1 := by intro W hW; have hC := k1.drew.below hW; have t1 := hC.cell 1; have t2 := hC.cell 2; have t3 := hC.cell 3; have t4 := hC.cell 4; clear hC; obtain ⟨f0, f1, _, _⟩ := (k2.drew.below hW).two; obtain ⟨g0, g1, _, _⟩ := (k3.drew.below hW).two; go_simp; try rfl) (h2 := ?_)
 apply wpU_d 2 15
 refine wpU_g 3 16 (h1 := by intro W hW; have hC := k1.drew.below hW; have t1 := hC.cell 1; have t2 := hC.cell 2; have t3 := hC.cell 3; have t4 := hC.cell 4; clear hC; obtain ⟨f0, f1, _, _⟩ := (k2.drew.below hW).two; obtain ⟨g0, g1, _, _⟩ := (k3.drew.below hW).two; go_simp; try rfl) (h2 := ?_)
 apply wpU_d 5 18
 refine wpU_g 6 19 (h1 := by intro W hW; have hC := k1.drew.below hW; have t1 := hC.cell 1; have t2 := hC.cell 2; have t3 := hC.cell 3; have t4 := hC.cell 4; clear hC; obtain ⟨f0, f1, _, _⟩ := (k2.drew.below hW).two; obtain ⟨g0, g1, _, _⟩ := (k3.drew.below hW).two; go_simp; try rfl) (h2 := ?_)
 apply wpU_d 7 20
 refine wpU_g 8 21 (h1 := by intro W hW; have hC := k1.drew.below hW; have t1 := hC.cell 1; have t2 := hC.cell 2; have t3 := hC.cell 3; have t4 := hC.cell 4; clear hC; obtain ⟨f0, f1, _, _⟩ := (k2.drew.below hW).two; obtain ⟨g0, g1, _, _⟩ := (k3.drew.below hW).two; go_simp; try rfl) (h2 := ?_)
 refine wpU_ca 4 17 Tryz.func194 (fun W hW => S1 W (hp.below (bZs (bZd hB0) hW)) (kb.drew.below hW)) ?_
 refine wpU_ca 9 22 Tryz.func194 (fun W hW => S2 W (hp.below (bZs (bZd hB0) hW)) (kb.drew.below hW)) ?_
 refine wpU_new2 (i := 10) (k := 11) (d := some 11) (d2 := some 12) rfl rfl rfl rfl (by kernel_rfl) (by kernel_rfl) (by kernel_rfl) (by kernel_rfl) (by kernel_rfl) (by rfl) (by rfl) (by decide) ⟨(fun n => .pointer (some ⟨n, 0, none⟩)), #[.string ⟨#[]⟩, .string ⟨#[]⟩], 25, (fun n => .pointer (some ⟨n, 0, none⟩)), #[.string ⟨#[]⟩, .string ⟨#[]⟩], 25, fun W => ?_, fun W => ?_, fun g0 g1 hg0 hg1 hneg0 => ?_⟩
 ·go_simp
  try rfl
 ·go_simp
  try rfl
 refine wpU_late (by kernel_rfl) (fun W1 hW1 => ?_)
 obtain ⟨j0, j1, l0, l1⟩ := hW1.1.2.two
 refine wpAny_step1 (i := 12) (by kernel_rfl) rfl (by rfl) (fun K hK => ?_)
 go_simp
 refine hK _ _ ?_
 clear hK K
 obtain ⟨j4, j5, l4, l5⟩ := ((hW1.2.far (p := ⟨g0, 0, none⟩) (Ne.symm hneg0) (.string d1)).far (p := ⟨g0, 1, none⟩) (Ne.symm hneg0) (.string d2)).two
 refine wpAny_last (i := 13) (by kernel_rfl) rfl (by kernel_rfl) (by rfl) (fun K hK => ?_)
 go_simp
 refine hK _ _ ?_
 clear hK K
 obtain ⟨⟨hC1, kg0⟩, kg1⟩ := hW1
 obtain ⟨Wa, hC2, ea⟩ := hg0
 obtain ⟨Wb, hC3, eb⟩ := hg1
 have z0 : w5.heap.size ≤ g0 := ea ▸ (bZz (w := w5.drew) hC2)
 have z1 : w5.heap.size ≤ g1 := eb ▸ (bZz (w := w5.drew) hC3)
 clear ea eb hC2 hC3 Wa Wb
 have z2 := bZz hB0
 have z3 := k4.lt
 have z4 := hk.lt
 have hB1 := bZs (bZd hB0) hC1
 have hB2 := bZe (g := g1) (j := 1) (v := .string e2) (bZe (g := g1) (j := 0) (v := .string e1) (bZe (g := g0) (j := 1) (v := .string d2) (bZe (g := g0) (j := 0) (v := .string d1) hB1 (by omega)) (by omega)) (by omega)) (by omega)
 have kk0 : Blk _ g0 #[.string d1, .string d2] 25 := (((kg0.set 0 (.string d1)).set 1 (.string d2)).far (p := ⟨g1, 0, none⟩) hneg0 (.string e1)).far (p := ⟨g1, 1, none⟩) hneg0 (.string e2)
 have kk1 : Blk _ g1 #[.string e1, .string e2] 25 := (((kg1.far (p := ⟨g0, 0, none⟩) (Ne.symm hneg0) (.string d1)).far (p := ⟨g0, 1, none⟩) (Ne.symm hneg0) (.string d2)).set 0 (.string e1)).set 1 (.string e2)
 have kk4 := ((((k4.drew.below hC1).far (p := ⟨g0, 0, none⟩) (by simp only; omega) (.string d1)).far (p := ⟨g0, 1, none⟩) (by simp only; omega) (.string d2)).far (p := ⟨g1, 0, none⟩) (by simp only; omega) (.string e1)).far (p := ⟨g1, 1, none⟩) (by simp only; omega) (.string e2)
 have kkb := ((((kb.drew.below hC1).far (p := ⟨g0, 0, none⟩) (by simp only; omega) (.string d1)).far (p := ⟨g0, 1, none⟩) (by simp only; omega) (.string d2)).far (p := ⟨g1, 0, none⟩) (by simp only; omega) (.string e1)).far (p := ⟨g1, 1, none⟩) (by simp only; omega) (.string e2)
 go_wp2
 generalize hw7 : (((W1.setCell ⟨g0, 0, none⟩ (.string d1)).setCell ⟨g0, 1, none⟩ (.string d2)).setCell ⟨g1, 0, none⟩ (.string e1)).setCell ⟨g1, 1, none⟩ (.string e2) = w7 at *
 clear hw7
 refine rZu (fun i => i == 10) (fun W => Below w7.drew.heap.size w7.drew W) (by kernel_rfl) (cZb _) (Below.refl _ _) ?_
 apply wpU_d 0 23
 apply wpU_d 1 24
 refine wpU_g 2 25 (h1 := by intro W hW; obtain ⟨f0, f1, _, _⟩ := (kk0.drew.below hW).two; obtain ⟨f2, f3, _, _⟩ := (kk1.drew.below hW).two; go_simp; try rfl) (h2 := ?_)
 refine wpU_g 3 26 (h1 := by intro W hW; obtain ⟨f0, f1, _, _⟩ := (kk0.drew.below hW).two; obtain ⟨f2, f3, _, _⟩ := (kk1.drew.below hW).two; go_simp; try rfl) (h2 := ?_)
 apply wpU_d 5 28
 refine wpU_g 6 29 (h1 := by intro W hW; obtain ⟨f0, f1, _, _⟩ := (kk0.drew.below hW).two; obtain ⟨f2, f3, _, _⟩ := (kk1.drew.below hW).two; go_simp; try rfl) (h2 := ?_)
 refine wpU_g 7 30 (h1 := by intro W hW; obtain ⟨f0, f1, _, _⟩ := (kk0.drew.below hW).two; obtain ⟨f2, f3, _, _⟩ := (kk1.drew.below hW).two; go_simp; try rfl) (h2 := ?_)
 refine wpU_ca 4 27 Tryz.func156 (fun W hW => M1 W (hp.below (bZs (bZd hB2) hW)) (kkb.drew.below hW)) ?_
 refine wpU_ca 8 31 Tryz.func156 (fun W hW => M2 W (hp.below (bZs (bZd hB2) hW)) (kkb.drew.below hW)) ?_
 refine wpU_ca 9 32 Tryz.func310 (fun W hW => M3 W (hp.below (bZs (bZd hB2) hW)) (kkb.drew.below hW)) ?_
 refine wpU_late (by kernel_rfl) (fun W1 hW1 => ?_)
 obtain ⟨j0, j1, l0, l1⟩ := (kk4.drew.below hW1).two
 refine wpAny_last (i := 10) (by kernel_rfl) rfl (by kernel_rfl) (by rfl) (fun K hK => ?_)
 go_simp
 refine hK _ _ ?_
 clear hK K
 go_wp2
 have hB3 := bZs (bZd hB2) hW1
 have k4' := kk4.drew.below hW1
 refine bodyPost_ret (rZs rfl (.cell (w.heap.size + 4) 25 #[.string r1, .string r2] (0, 0) _ rfl ((k4'.set 0 (.string r1)).set 1 (.string r2)) Tryz.underlying25 rfl (by kernel_rfl) .nil)) rfl ?_
 exact ⟨rfl, bZe (bZe hB3 (by omega)) (by omega)⟩
theorem rg_side1 (a b' c x y d : Rat) (w : World) (hp : Pow w) (hok : okCv (1, a, b', c)) (hs : SqC (1, a, b', c)) (hx : Sq x) (hy : Sq y) (hd : Sq d)
  (D : ∀ g W, Pow W → Blk W g #[.bool false] 154 → Calls Tryz.prog 306 #[.agg #[], .pointer (some ⟨g, 0, none⟩), cv (1, a, b', c), rv x, rv y] W fun e w' => e = .returned (rv d) ∧ Below W.heap.size W w') :
  Calls Tryz.prog 42 #[cv (1, a, b', c), rv x, rv y] w fun e w' => e = .returned (.tuple #[.int .i64 (cmpR c d), .int .i64 0]) ∧ Below w.heap.size w w' := by
 have V := fun W hp => rg_validCurve (1, a, b', c) W hp hok hs
 have CM := fun W hp => rat_Compare c d W hp hs.2.2 hd
 have F := fun A n W hp hq hc => rg_fracs A n [x, y] W hp hq hc (fun q hq => by
  simp only [List.mem_cons, List.not_mem_nil, or_false] at hq
  rcases hq with rfl | rfl
  ·exact hx
  ·exact hy)
 have HC := fun (W : World) (g : Nat) (hk : Blk W g #[.string (itx x.num), .string (itx x.den), .string (itx y.num), .string (itx y.den)] 25) => flat_blk (n := 2) (enc := encQ) (hl := fun _ => rfl) (h1 := fun x u hu => by simp [encQ] at hu; rcases hu with rfl | rfl <;> rfl) [x, y] hk rfl (by simp)
 clear hok hs hx hy hd
 unfold rv cv at *
 dsimp only at *
 generalize cmpR c d = z at *
 generalize hgn0 : itx (a).num = a1 at *
 generalize hgn1 : itx ((a).den : Int) = a2 at *
 generalize hgn2 : itx (b').num = b1 at *
 generalize hgn3 : itx ((b').den : Int) = b2 at *
 generalize hgn4 : itx (c).num = c1 at *
 generalize hgn5 : itx ((c).den : Int) = c2 at *
 generalize hgn6 : itx (x).num = x1 at *
 generalize hgn7 : itx ((x).den : Int) = x2 at *
 generalize hgn8 : itx (y).num = y1 at *
 generalize hgn9 : itx ((y).den : Int) = y2 at *
 generalize hgn10 : itx (d).num = d1 at *
 generalize hgn11 : itx ((d).den : Int) = d2 at *
 clear hgn0 hgn1 hgn2 hgn3 hgn4 hgn5 hgn6 hgn7 hgn8 hgn9 hgn10 hgn11
 obtain ⟨hB0, k0, k1, k2⟩ := news3 w #[.int .i64 1, .string a1, .string a2, .string b1, .string b2, .string c1, .string c2] 91 #[.string x1, .string x2] 25 #[.string y1, .string y2] 25
 have hm := mtD1
 go_enter Tryz.func42, Tryz.ntmps42
 go_wp2_with (first | (go_at_call 99; refine (V _ (hp.below hB0)).mono ?_; clear V; rintro e w2 ⟨rfl, hb2⟩; have hB2 := bZs hB0 hb2; have K0 := k0.below hb2; have K1 := k1.below hb2; have K2 := k2.below hb2; obtain ⟨f0, f1, _, _⟩ := K1.two; obtain ⟨g0, g1, _, _⟩ := K2.two) | (go_at_call 41; refine (F _ 2 _ (hp.below (bZa hB2 _)) (HC _ _ (Blk.new _ _ _)) (by simp)).mono ?_; clear F HC; rintro e w3 ⟨rfl, hb3⟩; have hB3 := bZs (bZa hB2 (.cells #[.string x1, .string x2, .string y1, .string y2] 25)) hb3; have L0 := (K0.alloc (.cells #[.string x1, .string x2, .string y1, .string y2] 25)).below hb3; have L1 := (K1.alloc (.cells #[.string x1, .string x2, .string y1, .string y2] 25)).below hb3; have L2 := (K2.alloc (.cells #[.string x1, .string x2, .string y1, .string y2] 25)).below hb3))
 have hB4 := bZa hB3 (.cells #[.bool false] 154)
 have G0 := L0.alloc (.cells #[.bool false] 154)
 have G1 := L1.alloc (.cells #[.bool false] 154)
 have G2 := L2.alloc (.cells #[.bool false] 154)
 have G3 := Blk.new w3 #[.bool false] 154
 have hgs : w.heap.size ≤ w3.heap.size := bZz hB3
 generalize hgg : w3.heap.size = g at *
 generalize hw4 : w3.alloc (.cells #[.bool false] 154) = w4 at *
 clear hw4 hgg
 refine rZu (fun i => i == 8) (fun W => Below w4.drew.heap.size w4.drew W) (by kernel_rfl) (cZb _) (Below.refl _ _) ?_
 refine wpU_g 0 22 (h1 := by intro W hW; obtain ⟨f0, f1, _, _⟩ := (G1.drew.below hW).two; obtain ⟨g0, g1, _, _⟩ := (G2.drew.below hW).two; have hC := G0.drew.below hW; have e0 := hC.cell 0; have e1 := hC.cell 1; have e2 := hC.cell 2; have e3 := hC.cell 3; have e4 := hC.cell 4; have e5 := hC.cell 5; have e6 := hC.cell 6; clear hC; go_simp; try rfl) (h2 := ?_)
 apply wpU_d 2 24
 refine wpU_g 3 25 (h1 := by intro W hW; obtain ⟨f0, f1, _, _⟩ := (G1.drew.below hW).two; obtain ⟨g0, g1, _, _⟩ := (G2.drew.below hW).two; have hC := G0.drew.below hW; have e0 := hC.cell 0; have e1 := hC.cell 1; have e2 := hC.cell 2; have e3 := hC.cell 3; have e4 := hC.cell 4; have e5 := hC.cell 5; have e6 := hC.cell 6; clear hC; go_simp; try rfl) (h2 := ?_)
 refine wpU_g 4 26 (h1 := by intro W hW; obtain ⟨f0, f1, _, _⟩ := (G1.drew.below hW).two; obtain ⟨g0, g1, _, _⟩ := (G2.drew.below hW).two; have hC := G0.drew.below hW; have e0 := hC.cell 0; have e1 := hC.cell 1; have e2 := hC.cell 2; have e3 := hC.cell 3; have e4 := hC.cell 4; have e5 := hC.cell 5; have e6 := hC.cell 6; clear hC; go_simp; try rfl) (h2 := ?_)
 refine wpU_g 5 27 (h1 := by intro W hW; obtain ⟨f0, f1, _, _⟩ := (G1.drew.below hW).two; obtain ⟨g0, g1, _, _⟩ := (G2.drew.below hW).two; have hC := G0.drew.below hW; have e0 := hC.cell 0; have e1 := hC.cell 1; have e2 := hC.cell 2; have e3 := hC.cell 3; have e4 := hC.cell 4; have e5 := hC.cell 5; have e6 := hC.cell 6; clear hC; go_simp; try rfl) (h2 := ?_)
 refine wpU_ca 1 23 Tryz.func103 (fun W hW => rg_geometry1 a1 a2 b1 b2 c1 c2 W) ?_
 refine wpU_call (.agg #[.string d1, .string d2]) (i := 6) (d := some 28) rfl rfl (by kernel_rfl) (by kernel_rfl) (by kernel_rfl) (by kernel_rfl) (by rfl) ⟨306, #[.agg #[], .pointer (some ⟨g, 0, none⟩), .agg #[.int .i64 1, .string a1, .string a2, .string b1, .string b2, .string c1, .string c2], .agg #[.string x1, .string x2], .agg #[.string y1, .string y2]], fun W hW => ?_, fun W hW => D g W (hp.below (bZs (bZd hB4) hW)) (G3.drew.below hW)⟩ ?_
 ·rw [uinvoke_run rfl rfl (by kernel_rfl) hm (enters_of Tryz.func306 (by kernel_rfl) rfl) W]
  go_simp
 refine wpU_new (i := 7) (d := some 9) rfl rfl (by kernel_rfl) (by rfl) ⟨(fun n => .pointer (some ⟨n, 0, none⟩)), #[.string ⟨#[]⟩, .string ⟨#[]⟩], 25, fun W => ?_, fun g0 hg0 => ?_⟩
 ·go_simp
  try rfl
 refine wpU_late (by kernel_rfl) (fun W1 hW1 => ?_)
 obtain ⟨j0, j1, l0, l1⟩ := hW1.2.two
 refine wpAny_last (i := 8) (by kernel_rfl) rfl (by kernel_rfl) (by rfl) (fun K hK => ?_)
 go_simp
 refine hK _ _ ?_
 clear hK K
 obtain ⟨hC1, kg0⟩ := hW1
 obtain ⟨Wa, hC2, ea⟩ := hg0
 have z0 : w4.heap.size ≤ g0 := ea ▸ (bZz (w := w4.drew) hC2)
 clear ea hC2 Wa
 have z2 := bZz hB4
 have z3 := G3.lt
 have hB5 := bZe (g := g0) (j := 1) (v := .string d2) (bZe (g := g0) (j := 0) (v := .string d1) (bZs (bZd hB4) hC1) (by omega)) (by omega)
 have H0 : Blk _ g0 #[.string d1, .string d2] 25 := (kg0.set 0 (.string d1)).set 1 (.string d2)
 have z4 := G0.lt
 have H1 := ((G0.drew.below hC1).far (p := ⟨g0, 0, none⟩) (by simp only; omega) (.string d1)).far (p := ⟨g0, 1, none⟩) (by simp only; omega) (.string d2)
 have H2 := ((G3.drew.below hC1).far (p := ⟨g0, 0, none⟩) (by simp only; omega) (.string d1)).far (p := ⟨g0, 1, none⟩) (by simp only; omega) (.string d2)
 generalize hw7 : (W1.setCell ⟨g0, 0, none⟩ (.string d1)).setCell ⟨g0, 1, none⟩ (.string d2) = w7 at *
 clear hw7 z0 z2 z3 z4
 obtain ⟨h0, h1, _, _⟩ := H0.two
 have h2 := H1.cell 5
 have h3 := H1.cell 6
 have h4 := H2.cell 0
 go_wp2_with (go_at_call 18; refine (CM _ (hp.below hB5)).mono ?_; clear CM; rintro e w8 ⟨rfl, hb8⟩)
 go_ret2
 exact ⟨rfl, bZs hB5 hb8⟩
theorem rg_side2 (a b' c x y d : Rat) (w : World) (hp : Pow w) (hok : okCv (2, a, b', c)) (hs : SqC (2, a, b', c)) (hx : Sq x) (hy : Sq y) (hd : Sq d)
  (D : ∀ g W, Pow W → Blk W g #[.bool false] 154 → Calls Tryz.prog 311 #[.agg #[], .pointer (some ⟨g, 0, none⟩), cv (2, a, b', c), rv x, rv y] W fun e w' => e = .returned (rv d) ∧ Below W.heap.size W w') :
  Calls Tryz.prog 42 #[cv (2, a, b', c), rv x, rv y] w fun e w' => e = .returned (.tuple #[.int .i64 (cmpR c d), .int .i64 0]) ∧ Below w.heap.size w w' := by
 have V := fun W hp => rg_validCurve (2, a, b', c) W hp hok hs
 have CM := fun W hp => rat_Compare c d W hp hs.2.2 hd
 have F := fun A n W hp hq hc => rg_fracs A n [x, y] W hp hq hc (fun q hq => by
  simp only [List.mem_cons, List.not_mem_nil, or_false] at hq
  rcases hq with rfl | rfl
  ·exact hx
  ·exact hy)
 have HC := fun (W : World) (g : Nat) (hk : Blk W g #[.string (itx x.num), .string (itx x.den), .string (itx y.num), .string (itx y.den)] 25) => flat_blk (n := 2) (enc := encQ) (hl := fun _ => rfl) (h1 := fun x u hu => by simp [encQ] at hu; rcases hu with rfl | rfl <;> rfl) [x, y] hk rfl (by simp)
 clear hok hs hx hy hd
 unfold rv cv at *
 dsimp only at *
 generalize cmpR c d = z at *
 generalize hgn0 : itx (a).num = a1 at *
 generalize hgn1 : itx ((a).den : Int) = a2 at *
 generalize hgn2 : itx (b').num = b1 at *
 generalize hgn3 : itx ((b').den : Int) = b2 at *
 generalize hgn4 : itx (c).num = c1 at *
 generalize hgn5 : itx ((c).den : Int) = c2 at *
 generalize hgn6 : itx (x).num = x1 at *
 generalize hgn7 : itx ((x).den : Int) = x2 at *
 generalize hgn8 : itx (y).num = y1 at *
 generalize hgn9 : itx ((y).den : Int) = y2 at *
 generalize hgn10 : itx (d).num = d1 at *
 generalize hgn11 : itx ((d).den : Int) = d2 at *
 clear hgn0 hgn1 hgn2 hgn3 hgn4 hgn5 hgn6 hgn7 hgn8 hgn9 hgn10 hgn11
 obtain ⟨hB0, k0, k1, k2⟩ := news3 w #[.int .i64 2, .string a1, .string a2, .string b1, .string b2, .string c1, .string c2] 91 #[.string x1, .string x2] 25 #[.string y1, .string y2] 25
 have hm := mtD2
 go_enter Tryz.func42, Tryz.ntmps42
 go_wp2_with (first | (go_at_call 99; refine (V _ (hp.below hB0)).mono ?_; clear V; rintro e w2 ⟨rfl, hb2⟩; have hB2 := bZs hB0 hb2; have K0 := k0.below hb2; have K1 := k1.below hb2; have K2 := k2.below hb2; obtain ⟨f0, f1, _, _⟩ := K1.two; obtain ⟨g0, g1, _, _⟩ := K2.two) | (go_at_call 41; refine (F _ 2 _ (hp.below (bZa hB2 _)) (HC _ _ (Blk.new _ _ _)) (by simp)).mono ?_; clear F HC; rintro e w3 ⟨rfl, hb3⟩; have hB3 := bZs (bZa hB2 (.cells #[.string x1, .string x2, .string y1, .string y2] 25)) hb3; have L0 := (K0.alloc (.cells #[.string x1, .string x2, .string y1, .string y2] 25)).below hb3; have L1 := (K1.alloc (.cells #[.string x1, .string x2, .string y1, .string y2] 25)).below hb3; have L2 := (K2.alloc (.cells #[.string x1, .string x2, .string y1, .string y2] 25)).below hb3))
 have hB4 := bZa hB3 (.cells #[.bool false] 154)
 have G0 := L0.alloc (.cells #[.bool false] 154)
 have G1 := L1.alloc (.cells #[.bool false] 154)
 have G2 := L2.alloc (.cells #[.bool false] 154)
 have G3 := Blk.new w3 #[.bool false] 154
 have hgs : w.heap.size ≤ w3.heap.size := bZz hB3
 generalize hgg : w3.heap.size = g at *
 generalize hw4 : w3.alloc (.cells #[.bool false] 154) = w4 at *
 clear hw4 hgg
 refine rZu (fun i => i == 8) (fun W => Below w4.drew.heap.size w4.drew W) (by kernel_rfl) (cZb _) (Below.refl _ _) ?_
 refine wpU_g 0 22 (h1 := by intro W hW; obtain ⟨f0, f1, _, _⟩ := (G1.drew.below hW).two; obtain ⟨g0, g1, _, _⟩ := (G2.drew.below hW).two; have hC := G0.drew.below hW; have e0 := hC.cell 0; have e1 := hC.cell 1; have e2 := hC.cell 2; have e3 := hC.cell 3; have e4 := hC.cell 4; have e5 := hC.cell 5; have e6 := hC.cell 6; clear hC; go_simp; try rfl) (h2 := ?_)
 apply wpU_d 2 24
 refine wpU_g 3 25 (h1 := by intro W hW; obtain ⟨f0, f1, _, _⟩ := (G1.drew.below hW).two; obtain ⟨g0, g1, _, _⟩ := (G2.drew.below hW).two; have hC := G0.drew.below hW; have e0 := hC.cell 0; have e1 := hC.cell 1; have e2 := hC.cell 2; have e3 := hC.cell 3; have e4 := hC.cell 4; have e5 := hC.cell 5; have e6 := hC.cell 6; clear hC; go_simp; try rfl) (h2 := ?_)
 refine wpU_g 4 26 (h1 := by intro W hW; obtain ⟨f0, f1, _, _⟩ := (G1.drew.below hW).two; obtain ⟨g0, g1, _, _⟩ := (G2.drew.below hW).two; have hC := G0.drew.below hW; have e0 := hC.cell 0; have e1 := hC.cell 1; have e2 := hC.cell 2; have e3 := hC.cell 3; have e4 := hC.cell 4; have e5 := hC.cell 5; have e6 := hC.cell 6; clear hC; go_simp; try rfl) (h2 := ?_)
 refine wpU_g 5 27 (h1 := by intro W hW; obtain ⟨f0, f1, _, _⟩ := (G1.drew.below hW).two; obtain ⟨g0, g1, _, _⟩ := (G2.drew.below hW).two; have hC := G0.drew.below hW; have e0 := hC.cell 0; have e1 := hC.cell 1; have e2 := hC.cell 2; have e3 := hC.cell 3; have e4 := hC.cell 4; have e5 := hC.cell 5; have e6 := hC.cell 6; clear hC; go_simp; try rfl) (h2 := ?_)
 refine wpU_ca 1 23 Tryz.func103 (fun W hW => rg_geometry2 a1 a2 b1 b2 c1 c2 W) ?_
 refine wpU_call (.agg #[.string d1, .string d2]) (i := 6) (d := some 28) rfl rfl (by kernel_rfl) (by kernel_rfl) (by kernel_rfl) (by kernel_rfl) (by rfl) ⟨311, #[.agg #[], .pointer (some ⟨g, 0, none⟩), .agg #[.int .i64 2, .string a1, .string a2, .string b1, .string b2, .string c1, .string c2], .agg #[.string x1, .string x2], .agg #[.string y1, .string y2]], fun W hW => ?_, fun W hW => D g W (hp.below (bZs (bZd hB4) hW)) (G3.drew.below hW)⟩ ?_
 ·rw [uinvoke_run rfl rfl (by kernel_rfl) hm (enters_of Tryz.func311 (by kernel_rfl) rfl) W]
  go_simp
 refine wpU_new (i := 7) (d := some 9) rfl rfl (by kernel_rfl) (by rfl) ⟨(fun n => .pointer (some ⟨n, 0, none⟩)), #[.string ⟨#[]⟩, .string ⟨#[]⟩], 25, fun W => ?_, fun g0 hg0 => ?_⟩
 ·go_simp
  try rfl
 refine wpU_late (by kernel_rfl) (fun W1 hW1 => ?_)
 obtain ⟨j0, j1, l0, l1⟩ := hW1.2.two
 refine wpAny_last (i := 8) (by kernel_rfl) rfl (by kernel_rfl) (by rfl) (fun K hK => ?_)
 go_simp
 refine hK _ _ ?_
 clear hK K
 obtain ⟨hC1, kg0⟩ := hW1
 obtain ⟨Wa, hC2, ea⟩ := hg0
 have z0 : w4.heap.size ≤ g0 := ea ▸ (bZz (w := w4.drew) hC2)
 clear ea hC2 Wa
 have z2 := bZz hB4
 have z3 := G3.lt
 have hB5 := bZe (g := g0) (j := 1) (v := .string d2) (bZe (g := g0) (j := 0) (v := .string d1) (bZs (bZd hB4) hC1) (by omega)) (by omega)
 have H0 : Blk _ g0 #[.string d1, .string d2] 25 := (kg0.set 0 (.string d1)).set 1 (.string d2)
 have z4 := G0.lt
 have H1 := ((G0.drew.below hC1).far (p := ⟨g0, 0, none⟩) (by simp only; omega) (.string d1)).far (p := ⟨g0, 1, none⟩) (by simp only; omega) (.string d2)
 have H2 := ((G3.drew.below hC1).far (p := ⟨g0, 0, none⟩) (by simp only; omega) (.string d1)).far (p := ⟨g0, 1, none⟩) (by simp only; omega) (.string d2)
 generalize hw7 : (W1.setCell ⟨g0, 0, none⟩ (.string d1)).setCell ⟨g0, 1, none⟩ (.string d2) = w7 at *
 clear hw7 z0 z2 z3 z4
 obtain ⟨h0, h1, _, _⟩ := H0.two
 have h2 := H1.cell 5
 have h3 := H1.cell 6
 have h4 := H2.cell 0
 go_wp2_with (go_at_call 18; refine (CM _ (hp.below hB5)).mono ?_; clear CM; rintro e w8 ⟨rfl, hb8⟩)
 go_ret2
 exact ⟨rfl, bZs hB5 hb8⟩
theorem sm_dist {k : Nat} {c : Cv} {x y : Rat} (h1 : 1 ≤ k) (hk : 8 * k + 4 ≤ 89) (hc : smCv k c) (hx : Sm k x) (hy : Sm k y) : Sq (distR c x y) := by
 unfold distR
 split
 ·exact (sm_add (sm_mul (by omega) hc.1 hx) (sm_mul (by omega) hc.2.1 hy)).le (by omega)
 ·exact (sm_add (sm_mul (by omega) (sm_sub hx hc.1) (sm_sub hx hc.1)) (sm_mul (by omega) (sm_sub hy hc.2.1) (sm_sub hy hc.2.1))).le (by omega)
theorem rg_Side (k : Nat) (c : Cv) (x y : Rat) (w : World) (hp : Pow w) (h1 : 1 ≤ k) (hk : 8 * k + 4 ≤ 89) (h : okCv c) (hc : smCv k c) (hx : Sm k x) (hy : Sm k y) :
  Calls Tryz.prog 42 #[cv c, rv x, rv y] w fun e w' => e = .returned (.tuple #[.int .i64 (cmpR c.2.2.2 (distR c x y)), .int .i64 0]) ∧ Below w.heap.size w w' := by
 have hD := sm_dist h1 hk hc hx hy
 have hs : SqC c := ⟨hc.1.le (by omega), hc.2.1.le (by omega), hc.2.2.le (by omega)⟩
 have hxs : Sq x := hx.le (by omega)
 have hys : Sq y := hy.le (by omega)
 obtain ⟨n, a, b, d⟩ := c
 rcases h with ⟨e1, e2⟩ | ⟨e1, e2⟩
 ·simp only at e1
  subst e1
  have e : distR (1, a, b, d) x y = a * x + b * y := by unfold distR; rw [if_pos rfl]
  rw [e] at hD ⊢
  exact rg_side1 a b d x y _ w hp (.inl ⟨rfl, e2⟩) hs hxs hys hD (fun g W hp hk => rg_line_distance g a b d x y W hp hk hs.1 hs.2.1 hxs hys ((sm_mul (by omega) hc.1 hx).le (by omega)) ((sm_mul (by omega) hc.2.1 hy).le (by omega)))
 ·simp only at e1
  subst e1
  have e : distR (2, a, b, d) x y = (x - a) * (x - a) + (y - b) * (y - b) := by unfold distR; rw [if_neg (show ¬ ((2 : Int) = 1) by decide)]
  rw [e] at hD ⊢
  exact rg_side2 a b d x y _ w hp (.inr ⟨rfl, e2⟩) hs hxs hys hD (fun g W hp hk => rg_circle_distance g a b d x y W hp hk hs.1 hs.2.1 hxs hys ((sm_sub hx hc.1).le (by omega)) ((sm_sub hy hc.2.1).le (by omega)) ((sm_mul (by omega) (sm_sub hx hc.1) (sm_sub hx hc.1)).le (by omega)) ((sm_mul (by omega) (sm_sub hy hc.2.1) (sm_sub hy hc.2.1)).le (by omega)))
end Go.Proofs.YtociicfjhgfgpaaGreatDoor

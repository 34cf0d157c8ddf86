/- region: geometry, the curves' validity: the walks. region: ValidCurve: the walk. -/
import Derived.Test.YtociicfjhgfgpaaGreatDoorR22
set_option linter.unusedVariables false
set_option linter.unusedSimpArgs false
set_option maxHeartbeats 4000000
set_option maxRecDepth 100000
namespace Go.Proofs.YtociicfjhgfgpaaGreatDoor
open Go.RowKit Go.Shelf Go.Lib Go.Proofs.YtociicfjhgfgpaaGreatDoorW.PrintWords
theorem rg_geometry1 (t1 t2 t3 t4 t5 t6 : ByteArray) (w : World) :
  Calls Tryz.prog 103 #[.agg #[.int .i64 1, .string t1, .string t2, .string t3, .string t4, .string t5, .string t6]] w fun e w' => e = .returned (.iface 214 (.agg #[])) ∧ Below w.heap.size w w' := by
 have hB0 : Below w.heap.size w (w.alloc (.cells #[.int .i64 1, .string t1, .string t2, .string t3, .string t4, .string t5, .string t6] 91)) := bZa (Below.refl _ _) _
 go_enter Tryz.func103, Tryz.ntmps103
 go_wp2
 go_ret
 exact ⟨rfl, hB0⟩
theorem rg_geometry2 (t1 t2 t3 t4 t5 t6 : ByteArray) (w : World) :
  Calls Tryz.prog 103 #[.agg #[.int .i64 2, .string t1, .string t2, .string t3, .string t4, .string t5, .string t6]] w fun e w' => e = .returned (.iface 215 (.agg #[])) ∧ Below w.heap.size w w' := by
 have hB0 : Below w.heap.size w (w.alloc (.cells #[.int .i64 2, .string t1, .string t2, .string t3, .string t4, .string t5, .string t6] 91)) := bZa (Below.refl _ _) _
 go_enter Tryz.func103, Tryz.ntmps103
 go_wp2
 go_ret
 exact ⟨rfl, hB0⟩
theorem rg_circle_valid (k : Int) (t1 t2 t3 t4 : ByteArray) (r : Rat) (w : World) (hp : Pow w) (h : 0 < r) (hs : Sq r) :
  Calls Tryz.prog 314 #[.agg #[], .agg #[.int .i64 k, .string t1, .string t2, .string t3, .string t4, .string (itx r.num), .string (itx r.den)]] w fun e w' => e = .returned (.bool true) ∧ Below w.heap.size w w' := by
 have M := fun W hp => rg_sign r W hp hs
 rw [show cmpR r 0 = 1 by unfold cmpR; rw [if_neg (by grind), if_neg (by grind)]] at M
 unfold rv at M
 generalize itx r.num = s1 at *
 generalize itx (r.den : Int) = s2 at *
 obtain ⟨hB0, k0, k1⟩ := new2 w #[] #[.int .i64 k, .string t1, .string t2, .string t3, .string t4, .string s1, .string s2] 215 91
 go_enter Tryz.func314, Tryz.ntmps314
 go_wp2_with (go_at_call 155; refine (M _ (hp.below hB0)).mono ?_; clear M; rintro e w2 ⟨rfl, hb2⟩)
 go_ret
 exact ⟨rfl, bZs hB0 hb2⟩
theorem rv_mone : rv (-1) = .agg #[.string ⟨#[45, 49]⟩, .string ⟨#[49]⟩] := by
 unfold rv
 rw [show (((-1 : Rat).den : Nat) : Int) = ((1 : Nat) : Int) from rfl, itx_nat, dd_1 (by decide), show (-1 : Rat).num = (-1 : Int) from rfl, show itx (-1) = ⟨#[45, 49]⟩ by unfold itx txt; rw [if_neg (by decide), show ((-1 : Int)).natAbs = 1 from rfl, digs_pos (by decide) (by decide), show 1 / 10 = 0 from rfl, digs_zero]; rfl]
 rfl
theorem cmp_z : cmpR 0 0 = 0 := by unfold cmpR; rw [if_neg (by grind), if_pos rfl]
theorem cmp_o : cmpR 1 0 = 1 := by unfold cmpR; rw [if_neg (by grind), if_neg (by grind)]
theorem cmp_m : cmpR (-1) 0 = -1 := by unfold cmpR; rw [if_pos (by grind)]
theorem sq_mone : Sq (-1) := ⟨by decide, by decide⟩
theorem rg_line_valid_a1 (k : Int) (t3 t4 t5 t6 : ByteArray) (w : World) (hp : Pow w) :
  Calls Tryz.prog 309 #[.agg #[], .agg #[.int .i64 k, .string ⟨#[49]⟩, .string ⟨#[49]⟩, .string t3, .string t4, .string t5, .string t6]] w fun e w' => e = .returned (.bool true) ∧ Below w.heap.size w w' := by
 have M := fun W hp => rg_sign (1) W hp sq_one
 rw [cmp_o, rv_one] at M
 obtain ⟨hB0, k0, k1, k2⟩ := new3 w #[] #[.int .i64 k, .string ⟨#[49]⟩, .string ⟨#[49]⟩, .string t3, .string t4, .string t5, .string t6] #[.string ⟨#[49]⟩, .string ⟨#[49]⟩] 214 91 25
 go_enter Tryz.func309, Tryz.ntmps309
 go_wp2_with (go_at_call 155; refine (M _ (hp.below hB0)).mono ?_; clear M; rintro e w2 ⟨rfl, hb2⟩; have hB2 := bZs hB0 hb2; have K1 := k1.below hb2; have K2 := k2.below hb2)
 have K3 := K2
 have hB3 := hB2
 obtain ⟨w3, hw3⟩ : ∃ w3, w2 = w3 := ⟨_, rfl⟩
 rw [hw3] at K3 hB3
 try rw [show w.heap.size + 1 + 1 = w.heap.size + 2 from rfl]
 try rw [hw3]
 refine rZu (fun _ => false) (fun W => Below w3.drew.heap.size w3.drew W) (by kernel_rfl) (cZb _) (Below.refl _ _) ?_
 refine wpU_g 0 13 (h1 := by intro W hW; obtain ⟨a0, a1, _, _⟩ := (K3.drew.below hW).two; go_simp; try rfl) (h2 := ?_)
 refine wpU_ca 1 14 Tryz.func151 (fun W hW => rg_whole _ W) ?_
 apply wpU_d 2 15
 apply wpU_d 3 16
 refine wpU_skip (i := 4) (d := some 17) rfl rfl (by kernel_rfl) (by kernel_rfl) (by kernel_rfl) (by kernel_rfl) (by rfl) ?_
 refine wpU_skip (i := 5) (d := some 18) rfl rfl (by kernel_rfl) (by kernel_rfl) (by kernel_rfl) (by kernel_rfl) (by rfl) ?_
 refine wpU_skip (i := 6) (d := some 19) rfl rfl (by kernel_rfl) (by kernel_rfl) (by kernel_rfl) (by kernel_rfl) (by rfl) ?_
 apply wpU_d 7 20
 apply wpU_d 8 4
 refine wpU_done (by kernel_rfl) (fun W1 hW1 => ?_) _
 go_simp
 go_wp2
 go_ret
 exact ⟨rfl, bZs (bZd hB3) hW1⟩
theorem rg_line_valid_am (k : Int) (t3 t4 t5 t6 : ByteArray) (w : World) (hp : Pow w) :
  Calls Tryz.prog 309 #[.agg #[], .agg #[.int .i64 k, .string ⟨#[45, 49]⟩, .string ⟨#[49]⟩, .string t3, .string t4, .string t5, .string t6]] w fun e w' => e = .returned (.bool true) ∧ Below w.heap.size w w' := by
 have M := fun W hp => rg_sign (-1) W hp sq_mone
 rw [cmp_m, rv_mone] at M
 obtain ⟨hB0, k0, k1, k2⟩ := new3 w #[] #[.int .i64 k, .string ⟨#[45, 49]⟩, .string ⟨#[49]⟩, .string t3, .string t4, .string t5, .string t6] #[.string ⟨#[45, 49]⟩, .string ⟨#[49]⟩] 214 91 25
 go_enter Tryz.func309, Tryz.ntmps309
 go_wp2_with (go_at_call 155; refine (M _ (hp.below hB0)).mono ?_; clear M; rintro e w2 ⟨rfl, hb2⟩; have hB2 := bZs hB0 hb2; have K1 := k1.below hb2; have K2 := k2.below hb2)
 have K3 := K2
 have hB3 := hB2
 obtain ⟨w3, hw3⟩ : ∃ w3, w2 = w3 := ⟨_, rfl⟩
 rw [hw3] at K3 hB3
 try rw [show w.heap.size + 1 + 1 = w.heap.size + 2 from rfl]
 try rw [hw3]
 refine rZu (fun _ => false) (fun W => Below w3.drew.heap.size w3.drew W) (by kernel_rfl) (cZb _) (Below.refl _ _) ?_
 refine wpU_g 0 13 (h1 := by intro W hW; obtain ⟨a0, a1, _, _⟩ := (K3.drew.below hW).two; go_simp; try rfl) (h2 := ?_)
 refine wpU_ca 1 14 Tryz.func151 (fun W hW => rg_whole _ W) ?_
 apply wpU_d 2 15
 apply wpU_d 3 16
 refine wpU_g 4 17 (h1 := by intro W hW; obtain ⟨a0, a1, _, _⟩ := (K3.drew.below hW).two; go_simp; try rfl) (h2 := ?_)
 refine wpU_ca 5 18 Tryz.func151 (fun W hW => rg_whole _ W) ?_
 apply wpU_d 6 19
 apply wpU_d 7 20
 apply wpU_d 8 4
 refine wpU_done (by kernel_rfl) (fun W1 hW1 => ?_) _
 go_simp
 go_wp2
 go_ret
 exact ⟨rfl, bZs (bZd hB3) hW1⟩
theorem rg_line_valid_b1 (k : Int) (t5 t6 : ByteArray) (w : World) (hp : Pow w) :
  Calls Tryz.prog 309 #[.agg #[], .agg #[.int .i64 k, .string ⟨#[48]⟩, .string ⟨#[49]⟩, .string ⟨#[49]⟩, .string ⟨#[49]⟩, .string t5, .string t6]] w fun e w' => e = .returned (.bool true) ∧ Below w.heap.size w w' := by
 have M := fun W hp => rg_sign (0) W hp sq_zero
 rw [cmp_z, rv_zero] at M
 obtain ⟨hB0, k0, k1, k2⟩ := new3 w #[] #[.int .i64 k, .string ⟨#[48]⟩, .string ⟨#[49]⟩, .string ⟨#[49]⟩, .string ⟨#[49]⟩, .string t5, .string t6] #[.string ⟨#[48]⟩, .string ⟨#[49]⟩] 214 91 25
 go_enter Tryz.func309, Tryz.ntmps309
 go_wp2_with (go_at_call 155; refine (M _ (hp.below hB0)).mono ?_; clear M; rintro e w2 ⟨rfl, hb2⟩; have hB2 := bZs hB0 hb2; have K1 := k1.below hb2; have K2 := k2.below hb2; have c3 := K1.cell 3; have c4 := K1.cell 4; obtain ⟨r0, r1, q0, q1⟩ := K2.two)
 have K3 : Blk ((w2.setCell ⟨w.heap.size + 2, 0, none⟩ (.string ⟨#[49]⟩)).setCell ⟨w.heap.size + 2, 1, none⟩ (.string ⟨#[49]⟩)) (w.heap.size + 2) #[.string ⟨#[49]⟩, .string ⟨#[49]⟩] 25 := (K2.set 0 (.string ⟨#[49]⟩)).set 1 (.string ⟨#[49]⟩)
 have hB3 := bZe (g := w.heap.size + 2) (j := 1) (v := .string ⟨#[49]⟩) (bZe (g := w.heap.size + 2) (j := 0) (v := .string ⟨#[49]⟩) hB2 (by omega)) (by omega)
 obtain ⟨w3, hw3⟩ : ∃ w3, (w2.setCell ⟨w.heap.size + 2, 0, none⟩ (.string ⟨#[49]⟩)).setCell ⟨w.heap.size + 2, 1, none⟩ (.string ⟨#[49]⟩) = w3 := ⟨_, rfl⟩
 rw [hw3] at K3 hB3
 try rw [show w.heap.size + 1 + 1 = w.heap.size + 2 from rfl]
 try rw [hw3]
 refine rZu (fun _ => false) (fun W => Below w3.drew.heap.size w3.drew W) (by kernel_rfl) (cZb _) (Below.refl _ _) ?_
 refine wpU_g 0 13 (h1 := by intro W hW; obtain ⟨a0, a1, _, _⟩ := (K3.drew.below hW).two; go_simp; try rfl) (h2 := ?_)
 refine wpU_ca 1 14 Tryz.func151 (fun W hW => rg_whole _ W) ?_
 apply wpU_d 2 15
 apply wpU_d 3 16
 refine wpU_skip (i := 4) (d := some 17) rfl rfl (by kernel_rfl) (by kernel_rfl) (by kernel_rfl) (by kernel_rfl) (by rfl) ?_
 refine wpU_skip (i := 5) (d := some 18) rfl rfl (by kernel_rfl) (by kernel_rfl) (by kernel_rfl) (by kernel_rfl) (by rfl) ?_
 refine wpU_skip (i := 6) (d := some 19) rfl rfl (by kernel_rfl) (by kernel_rfl) (by kernel_rfl) (by kernel_rfl) (by rfl) ?_
 apply wpU_d 7 20
 apply wpU_d 8 4
 refine wpU_done (by kernel_rfl) (fun W1 hW1 => ?_) _
 go_simp
 go_wp2
 go_ret
 exact ⟨rfl, bZs (bZd hB3) hW1⟩
theorem rg_line_valid_bm (k : Int) (t5 t6 : ByteArray) (w : World) (hp : Pow w) :
  Calls Tryz.prog 309 #[.agg #[], .agg #[.int .i64 k, .string ⟨#[48]⟩, .string ⟨#[49]⟩, .string ⟨#[45, 49]⟩, .string ⟨#[49]⟩, .string t5, .string t6]] w fun e w' => e = .returned (.bool true) ∧ Below w.heap.size w w' := by
 have M := fun W hp => rg_sign (0) W hp sq_zero
 rw [cmp_z, rv_zero] at M
 obtain ⟨hB0, k0, k1, k2⟩ := new3 w #[] #[.int .i64 k, .string ⟨#[48]⟩, .string ⟨#[49]⟩, .string ⟨#[45, 49]⟩, .string ⟨#[49]⟩, .string t5, .string t6] #[.string ⟨#[48]⟩, .string ⟨#[49]⟩] 214 91 25
 go_enter Tryz.func309, Tryz.ntmps309
 go_wp2_with (go_at_call 155; refine (M _ (hp.below hB0)).mono ?_; clear M; rintro e w2 ⟨rfl, hb2⟩; have hB2 := bZs hB0 hb2; have K1 := k1.below hb2; have K2 := k2.below hb2; have c3 := K1.cell 3; have c4 := K1.cell 4; obtain ⟨r0, r1, q0, q1⟩ := K2.two)
 have K3 : Blk ((w2.setCell ⟨w.heap.size + 2, 0, none⟩ (.string ⟨#[45, 49]⟩)).setCell ⟨w.heap.size + 2, 1, none⟩ (.string ⟨#[49]⟩)) (w.heap.size + 2) #[.string ⟨#[45, 49]⟩, .string ⟨#[49]⟩] 25 := (K2.set 0 (.string ⟨#[45, 49]⟩)).set 1 (.string ⟨#[49]⟩)
 have hB3 := bZe (g := w.heap.size + 2) (j := 1) (v := .string ⟨#[49]⟩) (bZe (g := w.heap.size + 2) (j := 0) (v := .string ⟨#[45, 49]⟩) hB2 (by omega)) (by omega)
 obtain ⟨w3, hw3⟩ : ∃ w3, (w2.setCell ⟨w.heap.size + 2, 0, none⟩ (.string ⟨#[45, 49]⟩)).setCell ⟨w.heap.size + 2, 1, none⟩ (.string ⟨#[49]⟩) = w3 := ⟨_, rfl⟩
 rw [hw3] at K3 hB3
 try rw [show w.heap.size + 1 + 1 = w.heap.size + 2 from rfl]
 try rw [hw3]
 refine rZu (fun _ => false) (fun W => Below w3.drew.heap.size w3.drew W) (by kernel_rfl) (cZb _) (Below.refl _ _) ?_
 refine wpU_g 0 13 (h1 := by intro W hW; obtain ⟨a0, a1, _, _⟩ := (K3.drew.below hW).two; go_simp; try rfl) (h2 := ?_)
 refine wpU_ca 1 14 Tryz.func151 (fun W hW => rg_whole _ W) ?_
 apply wpU_d 2 15
 apply wpU_d 3 16
 refine wpU_g 4 17 (h1 := by intro W hW; obtain ⟨a0, a1, _, _⟩ := (K3.drew.below hW).two; go_simp; try rfl) (h2 := ?_)
 refine wpU_ca 5 18 Tryz.func151 (fun W hW => rg_whole _ W) ?_
 apply wpU_d 6 19
 apply wpU_d 7 20
 apply wpU_d 8 4
 refine wpU_done (by kernel_rfl) (fun W1 hW1 => ?_) _
 go_simp
 go_wp2
 go_ret
 exact ⟨rfl, bZs (bZd hB3) hW1⟩
theorem it_zero : itx (0 : Rat).num = ⟨#[48]⟩ ∧ itx ((0 : Rat).den : Int) = ⟨#[49]⟩ := by
 have := rv_zero
 unfold rv at this
 simpa using this
theorem it_one : itx (1 : Rat).num = ⟨#[49]⟩ ∧ itx ((1 : Rat).den : Int) = ⟨#[49]⟩ := by
 have := rv_one
 unfold rv at this
 simpa using this
theorem it_mone : itx (-1 : Rat).num = ⟨#[45, 49]⟩ ∧ itx ((-1 : Rat).den : Int) = ⟨#[49]⟩ := by
 have := rv_mone
 unfold rv at this
 simpa using this
theorem mtV1 : ∀ w : World, (method 476 214 (.agg #[]) "workpiece/region.valid").run Tryz.prog w = .ok (309, .agg #[]) w := fun _ => by kernel_rfl
theorem mtV2 : ∀ w : World, (method 476 215 (.agg #[]) "workpiece/region.valid").run Tryz.prog w = .ok (314, .agg #[]) w := fun _ => by kernel_rfl
theorem mtD1 : ∀ w : World, (method 476 214 (.agg #[]) "workpiece/region.distance").run Tryz.prog w = .ok (306, .agg #[]) w := fun _ => by kernel_rfl
theorem mtD2 : ∀ w : World, (method 476 215 (.agg #[]) "workpiece/region.distance").run Tryz.prog w = .ok (311, .agg #[]) w := fun _ => by kernel_rfl
abbrev SqC (c : Cv) : Prop := Sq c.2.1 ∧ Sq c.2.2.1 ∧ Sq c.2.2.2
theorem rg_line_valid (c : Cv) (w : World) (hp : Pow w) (h : okCv c) (h1 : c.1 = 1) : Calls Tryz.prog 309 #[.agg #[], cv c] w fun e w' => e = .returned (.bool true) ∧ Below w.heap.size w w' := by
 obtain ⟨k, a, b, d⟩ := c
 unfold cv
 rcases h with ⟨_, (h | h) | ⟨h, h' | h'⟩⟩ | ⟨h, _⟩
 ·simp only at h
  subst h
  simp only [it_one.1, it_one.2]
  exact rg_line_valid_a1 _ _ _ _ _ _ hp
 ·simp only at h
  subst h
  simp only [it_mone.1, it_mone.2]
  exact rg_line_valid_am _ _ _ _ _ _ hp
 ·simp only at h h'
  subst h h'
  simp only [it_one.1, it_one.2, it_zero.1, it_zero.2]
  exact rg_line_valid_b1 _ _ _ _ hp
 ·simp only at h h'
  subst h h'
  simp only [it_mone.1, it_mone.2, it_zero.1, it_zero.2]
  exact rg_line_valid_bm _ _ _ _ hp
 ·rw [h] at h1
  cases h1
theorem rg_validCurve1 (a b c : Rat) (w : World) (hp : Pow w) (h1 : Sq a) (h2 : Sq b) (h3 : Sq c) (V : ∀ W, Pow W → Calls Tryz.prog 309 #[.agg #[], cv (1, a, b, c)] W fun e w' => e = .returned (.bool true) ∧ Below W.heap.size W w') :
  Calls Tryz.prog 99 #[cv (1, a, b, c)] w fun e w' => e = .returned (.bool true) ∧ Below w.heap.size w w' := by
 have F := fun A n W hp hq hc => rg_fracs A n [a, b, c] W hp hq hc (fun q hq => by
  simp only [List.mem_cons, List.not_mem_nil, or_false] at hq
  rcases hq with rfl | rfl | rfl
  ·exact h1
  ·exact h2
  ·exact h3)
 have HC := fun (W : World) (g : Nat) (hk : Blk W g #[.string (itx a.num), .string (itx a.den), .string (itx b.num), .string (itx b.den), .string (itx c.num), .string (itx c.den)] 25) => flat_blk (n := 2) (enc := encQ) (hl := fun _ => rfl) (h1 := fun x u hu => by simp [encQ] at hu; rcases hu with rfl | rfl <;> rfl) [a, b, c] hk rfl (by simp)
 unfold cv at *
 dsimp only at *
 generalize hs1 : itx a.num = s1 at *
 generalize hs2 : itx (a.den : Int) = s2 at *
 generalize hs3 : itx b.num = s3 at *
 generalize hs4 : itx (b.den : Int) = s4 at *
 generalize hs5 : itx c.num = s5 at *
 generalize hs6 : itx (c.den : Int) = s6 at *
 clear hs1 hs2 hs3 hs4 hs5 hs6
 obtain ⟨hB0, k0⟩ := news1 w #[.int .i64 1, .string s1, .string s2, .string s3, .string s4, .string s5, .string s6] 91
 have hm := mtV1
 go_enter Tryz.func99, Tryz.ntmps99
 go_wp2_with (first | (go_at_call 103; refine (rg_geometry1 s1 s2 s3 s4 s5 s6 _).mono ?_; rintro e w2 ⟨rfl, hb2⟩; have hB2 := bZs hB0 hb2; have K2 := k0.below hb2; have c0 := K2.cell 0; have c1 := K2.cell 1; have c2 := K2.cell 2; have c3 := K2.cell 3; have c4 := K2.cell 4; have c5 := K2.cell 5; have c6 := K2.cell 6) | (go_at_call 41; refine (F _ 3 _ (hp.below (bZa hB2 _)) (HC _ _ (Blk.new _ _ _)) (by simp)).mono ?_; clear F HC; rintro e w3 ⟨rfl, hb3⟩; have hB3 := bZs (bZa hB2 (.cells #[.string s1, .string s2, .string s3, .string s4, .string s5, .string s6] 25)) hb3; have K3 := (K2.alloc (.cells #[.string s1, .string s2, .string s3, .string s4, .string s5, .string s6] 25)).below hb3; have d0 := K3.cell 0; have d1 := K3.cell 1; have d2 := K3.cell 2; have d3 := K3.cell 3; have d4 := K3.cell 4; have d5 := K3.cell 5; have d6 := K3.cell 6) | (go_at_call 309; refine (V _ (hp.below hB3)).mono ?_; clear V; rintro e w4 ⟨rfl, hb4⟩))
 go_ret
 exact ⟨rfl, bZs hB3 hb4⟩
theorem rg_validCurve2 (a b c : Rat) (w : World) (hp : Pow w) (h1 : Sq a) (h2 : Sq b) (h3 : Sq c) (V : ∀ W, Pow W → Calls Tryz.prog 314 #[.agg #[], cv (2, a, b, c)] W fun e w' => e = .returned (.bool true) ∧ Below W.heap.size W w') :
  Calls Tryz.prog 99 #[cv (2, a, b, c)] w fun e w' => e = .returned (.bool true) ∧ Below w.heap.size w w' := by
 have F := fun A n W hp hq hc => rg_fracs A n [a, b, c] W hp hq hc (fun q hq => by
  simp only [List.mem_cons, List.not_mem_nil, or_false] at hq
  rcases hq with rfl | rfl | rfl
  ·exact h1
  ·exact h2
  ·exact h3)
 have HC := fun (W : World) (g : Nat) (hk : Blk W g #[.string (itx a.num), .string (itx a.den), .string (itx b.num), .string (itx b.den), .string (itx c.num), .string (itx c.den)] 25) => flat_blk (n := 2) (enc := encQ) (hl := fun _ => rfl) (h1 := fun x u hu => by simp [encQ] at hu; rcases hu with rfl | rfl <;> rfl) [a, b, c] hk rfl (by simp)
 unfold cv at *
 dsimp only at *
 generalize hs1 : itx a.num = s1 at *
 generalize hs2 : itx (a.den : Int) = s2 at *
 generalize hs3 : itx b.num = s3 at *
 generalize hs4 : itx (b.den : Int) = s4 at *
 generalize hs5 : itx c.num = s5 at *
 generalize hs6 : itx (c.den : Int) = s6 at *
 clear hs1 hs2 hs3 hs4 hs5 hs6
 obtain ⟨hB0, k0⟩ := news1 w #[.int .i64 2, .string s1, .string s2, .string s3, .string s4, .string s5, .string s6] 91
 have hm := mtV2
 go_enter Tryz.func99, Tryz.ntmps99
 go_wp2_with (first | (go_at_call 103; refine (rg_geometry2 s1 s2 s3 s4 s5 s6 _).mono ?_; rintro e w2 ⟨rfl, hb2⟩; have hB2 := bZs hB0 hb2; have K2 := k0.below hb2; have c0 := K2.cell 0; have c1 := K2.cell 1; have c2 := K2.cell 2; have c3 := K2.cell 3; have c4 := K2.cell 4; have c5 := K2.cell 5; have c6 := K2.cell 6) | (go_at_call 41; refine (F _ 3 _ (hp.below (bZa hB2 _)) (HC _ _ (Blk.new _ _ _)) (by simp)).mono ?_; clear F HC; rintro e w3 ⟨rfl, hb3⟩; have hB3 := bZs (bZa hB2 (.cells #[.string s1, .string s2, .string s3, .string s4, .string s5, .string s6] 25)) hb3; have K3 := (K2.alloc (.cells #[.string s1, .string s2, .string s3, .string s4, .string s5, .string s6] 25)).below hb3; have d0 := K3.cell 0; have d1 := K3.cell 1; have d2 := K3.cell 2; have d3 := K3.cell 3; have d4 := K3.cell 4; have d5 := K3.cell 5; have d6 := K3.cell 6) | (go_at_call 314; refine (V _ (hp.below hB3)).mono ?_; clear V; rintro e w4 ⟨rfl, hb4⟩))
 go_ret
 exact ⟨rfl, bZs hB3 hb4⟩
theorem rg_validCurve (c : Cv) (w : World) (hp : Pow w) (h : okCv c) (hs : SqC c) : Calls Tryz.prog 99 #[cv c] w fun e w' => e = .returned (.bool true) ∧ Below w.heap.size w w' := by
 obtain ⟨k, a, b, d⟩ := c
 rcases h with ⟨h1, h2⟩ | ⟨h1, h2⟩
 ·simp only at h1
  subst h1
  exact rg_validCurve1 a b d w hp hs.1 hs.2.1 hs.2.2 (fun W hp => rg_line_valid (1, a, b, d) W hp (.inl ⟨rfl, h2⟩) rfl)
 ·simp only at h1
  subst h1
  exact rg_validCurve2 a b d w hp hs.1 hs.2.1 hs.2.2 (fun W hp => rg_circle_valid 2 _ _ _ _ d W hp h2 hs.2.2)
end Go.Proofs.YtociicfjhgfgpaaGreatDoor

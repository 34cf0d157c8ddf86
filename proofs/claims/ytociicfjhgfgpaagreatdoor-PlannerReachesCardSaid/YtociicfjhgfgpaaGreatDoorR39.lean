/- planner: Pocket: the walks where the tool does not fit. planner: passes and Pocket in general: the walks. -/
import Derived.Test.YtociicfjhgfgpaaGreatDoorR36
import Derived.Test.YtociicfjhgfgpaaGreatDoorR34
import Derived.Test.YtociicfjhgfgpaaGreatDoorR38
set_option linter.unusedVariables false
set_option linter.unusedSimpArgs false
set_option maxHeartbeats 32000000
set_option maxRecDepth 100000
namespace Go.Proofs.YtociicfjhgfgpaaGreatDoor
open Go.RowKit Go.Shelf Go.Lib Go.Proofs.YtociicfjhgfgpaaGreatDoorW.PrintWords
theorem wpOp_in {P : Program} {ops : Array Oper} {Q : Exit → Act → World → Prop} {i : Nat} {o : Oper} {K : Act → World → Prop} {a : Act} {w : World} (ho : ops[i]? = some o) (hw : Region.wanted o (yielded ops a.tmps) = true) (h : Oper.wp P o a w K Q) : wpOp P ops Q i K a w := by
 unfold wpOp
 simp only [ho]
 rw [if_pos hw]
 exact .inl h
theorem wpU_or {P : Program} {ops : Array Oper} {Q : Exit → Act → World → Prop} {md : Region.Mode} {ex : Nat → Bool} {C : World → Prop} {i k : Nat} {ok : Oper} {fuel : Nat} {listed : Array Bool} {a : Act} {d : Option Tmp} {v : Value} (hr : Region.ready md ops listed = [i, k]) (hx : ex i = true) (hk : ops[k]? = some ok) (hd : ok.dst = d) (hw : Region.wanted ok (yielded ops a.tmps) = true) (hy : ∀ w, C w → (execOp a.eval ok).run P w = .ok (.value v) w)
  (h1 : ∀ w, C w → wpOp P ops Q i (wpAny P md ops Q fuel (listed.setIfInBounds i true)) a w) (h2 : wpU P md ops Q ex fuel C (listed.setIfInBounds k true) (a.put d v)) : wpU P md ops Q ex (fuel + 1) C listed a := by
 subst hd
 refine ⟨fun h0 => (by rw [hr] at h0; cases h0), fun j hj => ?_⟩
 rw [hr] at hj
 simp only [List.mem_cons, List.not_mem_nil, or_false] at hj
 rcases hj with rfl | rfl
 ·exact .inl ⟨hx, h1⟩
 ·exact .inr (.inl ⟨ok, v, hk, .inl ⟨hw, .inl hy⟩, h2⟩)
theorem pl_P1_bad (b0 b1 b2 b3 b4 b5 : Nat) (x0 y0 x1 y1 r z : Rat) (pa : Addr) (w : World) (hp : Pow w) (hP : Plan w pa) (g0 : Blk w b0 #[.string (itx x0.num), .string (itx (x0.den : Int))] 25) (g1 : Blk w b1 #[.string (itx y0.num), .string (itx (y0.den : Int))] 25) (g2 : Blk w b2 #[.string (itx x1.num), .string (itx (x1.den : Int))] 25) (g3 : Blk w b3 #[.string (itx y1.num), .string (itx (y1.den : Int))] 25) (g4 : Blk w b4 #[.string (itx r.num), .string (itx (r.den : Int))] 25) (g5 : Blk w b5 #[.string (itx z.num), .string (itx (z.den : Int))] 25) (hI : Inp x0 y0 x1 y1 r) (hz : Sq z) (hf : fitsP x0 y0 x1 y1 r = false) :
  Calls Tryz.prog 27 #[.pointer (some ⟨b0, 0, none⟩), .pointer (some ⟨b1, 0, none⟩), .pointer (some ⟨b2, 0, none⟩), .pointer (some ⟨b3, 0, none⟩), .pointer (some ⟨b4, 0, none⟩), .pointer (some ⟨b5, 0, none⟩)] w fun e w' => e = .panicked (chain pa false) ∧ Below w.heap.size w w' := by
 have NP := fun W hp hP => pl_new x0 y0 x1 y1 r pa W hp hP hI.h0 hI.h1 hI.h2 hI.h3 hI.h4 hI.hr hI.hx hI.hy
 rw [hf] at NP
 have hh0 : 0 < w.heap.size := World.block_lt_of_cell? _ _ hP
 generalize pkv (Pkt.of x0 y0 x1 y1 r) = PK at *
 clear hI hf hz
 unfold rcv rv at NP
 simp only [Bool.false_eq_true, if_false] at NP
 skip
 generalize itx x0.num = a1 at *
 generalize itx (x0.den : Int) = a2 at *
 generalize itx y0.num = b1 at *
 generalize itx (y0.den : Int) = b2 at *
 generalize itx x1.num = c1 at *
 generalize itx (x1.den : Int) = c2 at *
 generalize itx y1.num = d1 at *
 generalize itx (y1.den : Int) = d2 at *
 generalize itx r.num = r1 at *
 generalize itx (r.den : Int) = r2 at *
 generalize itx z.num = z1 at *
 generalize itx (z.den : Int) = z2 at *
 go_enter Tryz.func27, Tryz.ntmps27
 go_wp2
 have hb1 := bZd (Below.refl w.heap.size w)
 refine rZu (fun i => i == 8 || i == 10 || i == 11) (fun W => Below w.drew.heap.size w.drew W) (by kernel_rfl) (cZb _) (Below.refl _ _) ?_
 refine wpU_f 0 7 (h1 := by intro W hW; have e0 := (g0.drew.below hW).cell 0; have e1 := (g0.drew.below hW).cell 1; go_simp; try rfl) (h3 := ?_)
 refine wpU_f 1 8 (h1 := by intro W hW; have e0 := (g1.drew.below hW).cell 0; have e1 := (g1.drew.below hW).cell 1; go_simp; try rfl) (h3 := ?_)
 apply wpU_e 2 9
 refine wpU_f 3 10 (h1 := by intro W hW; have e0 := (g2.drew.below hW).cell 0; have e1 := (g2.drew.below hW).cell 1; go_simp; try rfl) (h3 := ?_)
 refine wpU_f 4 11 (h1 := by intro W hW; have e0 := (g3.drew.below hW).cell 0; have e1 := (g3.drew.below hW).cell 1; go_simp; try rfl) (h3 := ?_)
 apply wpU_e 5 12
 apply wpU_e 6 13
 refine wpU_f 7 14 (h1 := by intro W hW; have e0 := (g4.drew.below hW).cell 0; have e1 := (g4.drew.below hW).cell 1; go_simp; try rfl) (h3 := ?_)
 refine wpU_or (i := 8) (k := 9) (d := some 16) (v := .agg #[.string z1, .string z2]) (by kernel_rfl) rfl rfl rfl (by rfl) (fun W hW => ?_) (fun W1 hW1 => ?_) ?_
 ·have e0 := (g5.drew.below hW).cell 0; have e1 := (g5.drew.below hW).cell 1
  go_simp
  try rfl
 ·have hB1 := bZs hb1 hW1
  refine wpOp_in rfl (by rfl) ?_
  go_simp
  go_at_call 28
  refine (NP _ (hp.below hB1) (hP.below hB1 hh0)).mono ?_
  rintro e w2 ⟨rfl, hb2⟩
  exact ⟨rfl, rfl, bZs hB1 hb2⟩
 ·refine wpU_ac ?_
  refine wpU_late (by kernel_rfl) (fun W1 hW1 => ?_)
  have hB1 := bZs hb1 hW1
  refine wpAny_step1 (i := 8) (by kernel_rfl) rfl (by rfl) (fun K hK => ?_)
  go_simp
  go_at_call 28
  refine (NP _ (hp.below hB1) (hP.below hB1 hh0)).mono ?_
  rintro e w2 ⟨rfl, hb2⟩
  exact ⟨rfl, rfl, bZs hB1 hb2⟩
theorem pl_Pocket_bad (x0 y0 x1 y1 z r : Rat) (pa : Addr) (w : World) (hp : Pow w) (hP : Plan w pa) (hI : Inp x0 y0 x1 y1 r) (hz : Sq z) (hf : fitsP x0 y0 x1 y1 r = false) :
  Calls Tryz.prog 11 #[rv x0, rv y0, rv x1, rv y1, rv z, rv r] w fun e w' => e = .returned (.tuple #[.slice none 0 0, .int .i64 290]) ∧ Below w.heap.size w w' := by
 have R1 := fun (b0 b1 b2 b3 b4 b5 : Nat) (W : World) hp hP g0 g1 g2 g3 g4 g5 => pl_P1_bad b0 b1 b2 b3 b4 b5 x0 y0 x1 y1 r z pa W hp hP g0 g1 g2 g3 g4 g5 hI hz hf
 have hh0 : 0 < w.heap.size := World.block_lt_of_cell? _ _ hP
 clear hI hf hz
 unfold rv at *
 generalize itx x0.num = a1 at *
 generalize itx (x0.den : Int) = a2 at *
 generalize itx y0.num = b1 at *
 generalize itx (y0.den : Int) = b2 at *
 generalize itx x1.num = c1 at *
 generalize itx (x1.den : Int) = c2 at *
 generalize itx y1.num = d1 at *
 generalize itx (y1.den : Int) = d2 at *
 generalize itx r.num = r1 at *
 generalize itx (r.den : Int) = r2 at *
 generalize itx z.num = z1 at *
 generalize itx (z.den : Int) = z2 at *
 obtain ⟨hB0, k0, k1, k2, k3, k4, k5⟩ := news6 w #[.string a1, .string a2] 25 #[.string b1, .string b2] 25 #[.string c1, .string c2] 25 #[.string d1, .string d2] 25 #[.string z1, .string z2] 25 #[.string r1, .string r2] 25
 have hh6 : 0 < ((((((w.alloc (.cells #[.string a1, .string a2] 25)).alloc (.cells #[.string b1, .string b2] 25)).alloc (.cells #[.string c1, .string c2] 25)).alloc (.cells #[.string d1, .string d2] 25)).alloc (.cells #[.string z1, .string z2] 25)).alloc (.cells #[.string r1, .string r2] 25)).heap.size := by simp
 have CP := cp26_bad 27 #[] #[.pointer (some ⟨w.heap.size, 0, none⟩), .pointer (some ⟨w.heap.size + 1, 0, none⟩), .pointer (some ⟨w.heap.size + 2, 0, none⟩), .pointer (some ⟨w.heap.size + 3, 0, none⟩), .pointer (some ⟨w.heap.size + 5, 0, none⟩), .pointer (some ⟨w.heap.size + 4, 0, none⟩)] pa ((((((w.alloc (.cells #[.string a1, .string a2] 25)).alloc (.cells #[.string b1, .string b2] 25)).alloc (.cells #[.string c1, .string c2] 25)).alloc (.cells #[.string d1, .string d2] 25)).alloc (.cells #[.string z1, .string z2] 25)).alloc (.cells #[.string r1, .string r2] 25)) (hP.below hB0 hh0) hh6 (enters_of Tryz.func27 (by kernel_rfl) rfl) (fun W hb => R1 w.heap.size (w.heap.size + 1) (w.heap.size + 2) (w.heap.size + 3) (w.heap.size + 5) (w.heap.size + 4) W (hp.below (bZs hB0 hb)) (hP.below (bZs hB0 hb) hh0) (k0.below hb) (k1.below hb) (k2.below hb) (k3.below hb) (k5.below hb) (k4.below hb))
 have hmf := mk_fn
 clear R1
 go_enter Tryz.func11, Tryz.ntmps11
 go_wp2_with (go_at_call 26; refine CP.mono ?_; clear CP; rintro e w2 ⟨rfl, hb2⟩)
 go_ret2
 exact ⟨rfl, bZs hB0 hb2⟩
theorem pl_passes_n (p : Pkt) (z : Rat) (w : World) (hp : Pow w) (hS : SqPk p) (hz : Sq z) (hw : ¬ p.a < p.c) :
  Calls Tryz.prog 29 #[pkv p, rv z] w fun e w' => ∃ A c, e = .returned (.slice A 1 c) ∧ OwnK kPs 61 w' w.heap.size (.slice A 1 c) [(p.a, p.b, p.a, p.d, z)] ∧ Below w.heap.size w w' := by
 have VZ := fun W hp => rat_Valid z W hp hz
 have WI := fun W hp => pl_isWide p.a p.b p.c p.d W hp hS.a hS.c
 rw [decide_eq_false hw] at WI
 have CO := fun W => pl_check_ok W
 have P1 := fun (W : World) (vs : Value) (L : List Ps) hk hz HO HB hl => pl_pass w (w.heap.size + 2) (w.heap.size + 1) vs L p.a p.b p.a p.d z W hk hz HO HB (Nat.le_add_right _ _) hl
 obtain ⟨Q1, hQ1⟩ : ∃ t : Ps, (p.a, p.b, p.a, p.d, z) = t := ⟨_, rfl⟩
 simp only [hQ1] at P1 ⊢
 clear hQ1 hS hz hw
 unfold rv rcv pkv at *
 generalize itx p.a.num = e1 at *
 generalize itx (p.a.den : Int) = e2 at *
 generalize itx p.b.num = f1 at *
 generalize itx (p.b.den : Int) = f2 at *
 generalize itx p.c.num = t1 at *
 generalize itx (p.c.den : Int) = t2 at *
 generalize itx p.d.num = h1 at *
 generalize itx (p.d.den : Int) = h2 at *
 generalize itx p.x0.num = a1 at *
 generalize itx (p.x0.den : Int) = a2 at *
 generalize itx p.y0.num = b1 at *
 generalize itx (p.y0.den : Int) = b2 at *
 generalize itx p.x1.num = c1 at *
 generalize itx (p.x1.den : Int) = c2 at *
 generalize itx p.y1.num = d1 at *
 generalize itx (p.y1.den : Int) = d2 at *
 generalize itx p.r.num = r1 at *
 generalize itx (p.r.den : Int) = r2 at *
 generalize itx z.num = z1 at *
 generalize itx (z.den : Int) = z2 at *
 clear p z
 obtain ⟨hB0, k0, k1, k2⟩ := news3 w #[.string e1, .string e2, .string f1, .string f2, .string t1, .string t2, .string h1, .string h2, .string a1, .string a2, .string b1, .string b2, .string c1, .string c2, .string d1, .string d2, .string r1, .string r2] 71 #[.string z1, .string z2] 25 #[.slice none 0 0] 34
 have hmf := mk_fn
 have o2 := k2.cell 0
 go_enter Tryz.func29, Tryz.ntmps29
 go_wp2_with (first | (go_at_call 44; refine (VZ _ (hp.below hB0)).mono ?_; rintro e wq ⟨rfl, hb2⟩) | (go_at_call 67; refine (CO _).mono ?_; rintro e w2 ⟨rfl, rfl⟩))
 have hB1 := bZd (bZs hB0 hb2)
 have S0 := (k0.below hb2).drew
 have S1 := (k1.below hb2).drew
 have S2 := (k2.below hb2).drew
 clear hB0 hb2 k0 k1 k2 VZ o2
 refine wp_region_V (fun _ => false) (fun W => Below w2.drew.heap.size w2.drew W) (fun W => Below w2.drew.heap.size w2.drew W) (by kernel_rfl) (cZb _) (Below.refl _ _) ?_
 apply wpV_e 0 16
 apply wpV_e 1 17
 apply wpV_e 2 18
 refine wpV_f 3 19 (h1 := by intro W hW; have e0 := (S0.below hW).cell 0; have e1 := (S0.below hW).cell 1; go_simp; try rfl) (h3 := ?_)
 apply wpV_e 4 20
 apply wpV_e 5 21
 apply wpV_e 6 22
 refine wpV_f 7 23 (h1 := by intro W hW; have e2 := (S0.below hW).cell 2; have e3 := (S0.below hW).cell 3; go_simp; try rfl) (h3 := ?_)
 apply wpV_e 8 24
 apply wpV_e 9 25
 apply wpV_e 10 26
 refine wpV_f 11 27 (h1 := by intro W hW; have e4 := (S0.below hW).cell 4; have e5 := (S0.below hW).cell 5; go_simp; try rfl) (h3 := ?_)
 apply wpV_e 12 28
 apply wpV_e 13 29
 apply wpV_e 14 30
 refine wpV_f 15 31 (h1 := by intro W hW; have e6 := (S0.below hW).cell 6; have e7 := (S0.below hW).cell 7; go_simp; try rfl) (h3 := ?_)
 refine wpV_n4 (i1 := 16) (i2 := 17) (i3 := 18) (i4 := 19) (f1 := (fun n => .pointer (some ⟨n, 0, none⟩))) (f2 := (fun n => .pointer (some ⟨n, 0, none⟩))) (f3 := (fun n => .pointer (some ⟨n, 0, none⟩))) (f4 := (fun n => .pointer (some ⟨n, 0, none⟩))) (c1 := #[.string ⟨#[]⟩, .string ⟨#[]⟩]) (c2 := #[.string ⟨#[]⟩, .string ⟨#[]⟩]) (c3 := #[.string ⟨#[]⟩, .string ⟨#[]⟩]) (c4 := #[.string ⟨#[]⟩, .string ⟨#[]⟩]) (t1 := 25) (t2 := 25) (t3 := 25) (t4 := 25) (by kernel_rfl) rfl rfl rfl rfl (by kernel_rfl) (by kernel_rfl) (by kernel_rfl) (by kernel_rfl) (by kernel_rfl) (by kernel_rfl) (by kernel_rfl) (by kernel_rfl) (by kernel_rfl) (by kernel_rfl) (by kernel_rfl) (by kernel_rfl) (by kernel_rfl) (by kernel_rfl) (by kernel_rfl) (by kernel_rfl) (by kernel_rfl) (by kernel_rfl) (by kernel_rfl) (by kernel_rfl) (by kernel_rfl) (by kernel_rfl) (by kernel_rfl) (by kernel_rfl) (by kernel_rfl) (by kernel_rfl) (by kernel_rfl) (by kernel_rfl) (by kernel_rfl) (by kernel_rfl) (by kernel_rfl) (by kernel_rfl) (by kernel_rfl) (by kernel_rfl) (by kernel_rfl) (by kernel_rfl) (by kernel_rfl) (by kernel_rfl) (by kernel_rfl) (by kernel_rfl) (by kernel_rfl) (by kernel_rfl) (by decide) (by kernel_rfl) (by decide) (by kernel_rfl) (by decide) (by kernel_rfl) (by decide) (by kernel_rfl) (by decide) (by kernel_rfl) (by decide) (by kernel_rfl) (by decide) (by kernel_rfl) (by decide) (by kernel_rfl) (by decide) (by kernel_rfl) (by decide) (by kernel_rfl) (by decide) (by kernel_rfl) (by decide) ⟨by rfl, fun W => by go_simp; try rfl⟩ ⟨by rfl, fun W => by go_simp; try rfl⟩ ⟨by rfl, fun W => by go_simp; try rfl⟩ ⟨by rfl, fun W => by go_simp; try rfl⟩ ?_
 intro g0 g1 g2 g3 hg0 hg1 hg2 hg3 n01 n02 n03 n12 n13 n23
 have G0 : w2.drew.heap.size ≤ g0 := by
  obtain ⟨Wa, h, e⟩ := hg0
  rw [e]
  exact bZz h
 have G1 : w2.drew.heap.size ≤ g1 := by
  obtain ⟨Wa, h, e⟩ := hg1
  rw [e]
  exact bZz h
 have G2 : w2.drew.heap.size ≤ g2 := by
  obtain ⟨Wa, h, e⟩ := hg2
  rw [e]
  exact bZz h
 have G3 : w2.drew.heap.size ≤ g3 := by
  obtain ⟨Wa, h, e⟩ := hg3
  rw [e]
  exact bZz h
 have LT2 : w.heap.size + 2 < w2.drew.heap.size := S2.lt
 have m0 : w.heap.size + 2 ≠ g0 := by omega
 have m1 : w.heap.size + 2 ≠ g1 := by omega
 have m2 : w.heap.size + 2 ≠ g2 := by omega
 have m3 : w.heap.size + 2 ≠ g3 := by omega
 clear hg0 hg1 hg2 hg3 LT2
 refine wpV_store (fun W => ((((Below w2.drew.heap.size w2.drew W ∧ Blk W g0 #[.string e1, .string e2] 25) ∧ Blk W g1 #[.string ⟨#[]⟩, .string ⟨#[]⟩] 25) ∧ Blk W g2 #[.string ⟨#[]⟩, .string ⟨#[]⟩] 25) ∧ Blk W g3 #[.string ⟨#[]⟩, .string ⟨#[]⟩] 25)) (i := 20) (d := none) rfl rfl (by kernel_rfl) (closed_and (closed_and (closed_and (closed_and (cZb _) (closed_blk _ _ _)) (closed_blk _ _ _)) (closed_blk _ _ _)) (closed_blk _ _ _)) (fun _ h => h.1.1.1.1) (by rfl) (fun W hW => ⟨W.setRow g0 #[.string e1, .string e2], run_store_row2 25 (.tmp 6) (.tmp 19) rfl g0 #[.string e1, .string e2] rfl rfl 25 #[.string ⟨#[]⟩, .string ⟨#[]⟩] hW.1.1.1.2 (by kernel_rfl) rfl (by simp [Value.oneCell']), ⟨⟨⟨⟨below_row hW.1.1.1.1 G0 #[.string e1, .string e2], hW.1.1.1.2.row #[.string e1, .string e2]⟩, hW.1.1.2.farR (Ne.symm n01) #[.string e1, .string e2]⟩, hW.1.2.farR (Ne.symm n02) #[.string e1, .string e2]⟩, hW.2.farR (Ne.symm n03) #[.string e1, .string e2]⟩⟩) ?_
 refine wpV_store (fun W => ((((Below w2.drew.heap.size w2.drew W ∧ Blk W g0 #[.string e1, .string e2] 25) ∧ Blk W g1 #[.string f1, .string f2] 25) ∧ Blk W g2 #[.string ⟨#[]⟩, .string ⟨#[]⟩] 25) ∧ Blk W g3 #[.string ⟨#[]⟩, .string ⟨#[]⟩] 25)) (i := 21) (d := none) rfl rfl (by kernel_rfl) (closed_and (closed_and (closed_and (closed_and (cZb _) (closed_blk _ _ _)) (closed_blk _ _ _)) (closed_blk _ _ _)) (closed_blk _ _ _)) (fun _ h => h.1.1.1.1) (by rfl) (fun W hW => ⟨W.setRow g1 #[.string f1, .string f2], run_store_row2 25 (.tmp 7) (.tmp 23) rfl g1 #[.string f1, .string f2] rfl rfl 25 #[.string ⟨#[]⟩, .string ⟨#[]⟩] hW.1.1.2 (by kernel_rfl) rfl (by simp [Value.oneCell']), ⟨⟨⟨⟨below_row hW.1.1.1.1 G1 #[.string f1, .string f2], hW.1.1.1.2.farR n01 #[.string f1, .string f2]⟩, hW.1.1.2.row #[.string f1, .string f2]⟩, hW.1.2.farR (Ne.symm n12) #[.string f1, .string f2]⟩, hW.2.farR (Ne.symm n13) #[.string f1, .string f2]⟩⟩) ?_
 refine wpV_store (fun W => ((((Below w2.drew.heap.size w2.drew W ∧ Blk W g0 #[.string e1, .string e2] 25) ∧ Blk W g1 #[.string f1, .string f2] 25) ∧ Blk W g2 #[.string t1, .string t2] 25) ∧ Blk W g3 #[.string ⟨#[]⟩, .string ⟨#[]⟩] 25)) (i := 22) (d := none) rfl rfl (by kernel_rfl) (closed_and (closed_and (closed_and (closed_and (cZb _) (closed_blk _ _ _)) (closed_blk _ _ _)) (closed_blk _ _ _)) (closed_blk _ _ _)) (fun _ h => h.1.1.1.1) (by rfl) (fun W hW => ⟨W.setRow g2 #[.string t1, .string t2], run_store_row2 25 (.tmp 8) (.tmp 27) rfl g2 #[.string t1, .string t2] rfl rfl 25 #[.string ⟨#[]⟩, .string ⟨#[]⟩] hW.1.2 (by kernel_rfl) rfl (by simp [Value.oneCell']), ⟨⟨⟨⟨below_row hW.1.1.1.1 G2 #[.string t1, .string t2], hW.1.1.1.2.farR n02 #[.string t1, .string t2]⟩, hW.1.1.2.farR n12 #[.string t1, .string t2]⟩, hW.1.2.row #[.string t1, .string t2]⟩, hW.2.farR (Ne.symm n23) #[.string t1, .string t2]⟩⟩) ?_
 refine wpV_store (fun W => ((((Below w2.drew.heap.size w2.drew W ∧ Blk W g0 #[.string e1, .string e2] 25) ∧ Blk W g1 #[.string f1, .string f2] 25) ∧ Blk W g2 #[.string t1, .string t2] 25) ∧ Blk W g3 #[.string h1, .string h2] 25)) (i := 23) (d := none) rfl rfl (by kernel_rfl) (closed_and (closed_and (closed_and (closed_and (cZb _) (closed_blk _ _ _)) (closed_blk _ _ _)) (closed_blk _ _ _)) (closed_blk _ _ _)) (fun _ h => h.1.1.1.1) (by rfl) (fun W hW => ⟨W.setRow g3 #[.string h1, .string h2], run_store_row2 25 (.tmp 9) (.tmp 31) rfl g3 #[.string h1, .string h2] rfl rfl 25 #[.string ⟨#[]⟩, .string ⟨#[]⟩] hW.2 (by kernel_rfl) rfl (by simp [Value.oneCell']), ⟨⟨⟨⟨below_row hW.1.1.1.1 G3 #[.string h1, .string h2], hW.1.1.1.2.farR n03 #[.string h1, .string h2]⟩, hW.1.1.2.farR n13 #[.string h1, .string h2]⟩, hW.1.2.farR n23 #[.string h1, .string h2]⟩, hW.2.row #[.string h1, .string h2]⟩⟩) ?_
 refine wpV_done (by kernel_rfl) (fun w4 hW4 => ?_) _
 go_simp
 obtain ⟨⟨⟨⟨hbW, KA⟩, KB⟩, KC⟩, KD⟩ := hW4
 have K0 := S0.below hbW
 have KZ := S1.below hbW
 have KO := S2.below hbW
 have HB := bZs hB1 hbW
 have HO : OwnK kPs 61 w4 w.heap.size (.slice none 0 0) [] := OwnK.nil _ _ _ _
 clear hbW S0 S1 S2 hB1 G0 G1 G2 G3
 have pc0 := K0.c0
 have pc1 := K0.c1
 have pc2 := K0.c2
 have pc3 := K0.c3
 have pc4 := K0.c4
 have pc5 := K0.c5
 have pc6 := K0.c6
 have pc7 := K0.c7
 have pc16 := K0.c16
 have pc17 := K0.c17
 have KAc0 := KA.c0
 have KAc1 := KA.c1
 have KBc0 := KB.c0
 have KBc1 := KB.c1
 have KCc0 := KC.c0
 have KCc1 := KC.c1
 have KDc0 := KD.c0
 have KDc1 := KD.c1
 have TK1 : True := trivial
 have TK2 : True := trivial
 go_wp2_with ((first | (go_at_call 76; clear TK1; refine (P1 _ _ [] KO KZ HO HB (by simp)).mono ?_; rintro e v1 ⟨vs, rfl, KO2, HO2, HB2, ST⟩; replace K0 := ST.blk K0 (by omega) (OwnK.not_blk HO K0 (by decide)); replace KZ := ST.blk KZ (by omega) (OwnK.not_blk HO KZ (by decide)); replace KA := ST.blk KA (Ne.symm m0) (OwnK.not_blk HO KA (by decide)); replace KB := ST.blk KB (Ne.symm m1) (OwnK.not_blk HO KB (by decide)); replace KC := ST.blk KC (Ne.symm m2) (OwnK.not_blk HO KC (by decide)); replace KD := ST.blk KD (Ne.symm m3) (OwnK.not_blk HO KD (by decide)); replace KO := KO2; replace HO := HO2; replace HB := HB2; clear KO2 HO2 HB2; obtain ⟨XA, xc, ex⟩ := Kd.R_slice HO; subst ex) | (go_at_call 74; clear TK2; refine (WI _ (hp.below HB)).mono ?_; rintro e _ ⟨rfl, hb⟩; replace K0 := K0.below hb; replace KZ := KZ.below hb; replace KO := KO.below hb; replace KA := KA.below hb; replace KB := KB.below hb; replace KC := KC.below hb; replace KD := KD.below hb; replace HO := OwnK.below HO hb; replace HB := bZs HB hb; clear hb; obtain ⟨o0, o1⟩ := KO.one)); replace pc0 := K0.c0; replace pc1 := K0.c1; replace pc2 := K0.c2; replace pc3 := K0.c3; replace pc4 := K0.c4; replace pc5 := K0.c5; replace pc6 := K0.c6; replace pc7 := K0.c7; replace pc16 := K0.c16; replace pc17 := K0.c17; replace KAc0 := KA.c0; replace KAc1 := KA.c1; replace KBc0 := KB.c0; replace KBc1 := KB.c1; replace KCc0 := KC.c0; replace KCc1 := KC.c1; replace KDc0 := KD.c0; replace KDc1 := KD.c1)
 have HE := OwnK.set HO KO (by decide) 0 (.slice XA 1 xc)
 have c0 := (KO.set 0 (.slice XA 1 xc)).c0
 refine bodyPost_ret (v := .slice XA 1 xc) ?_ rfl ⟨_, _, rfl, HE, bZe HB (by omega)⟩
 simp [results, Tryz.results29, go_sem, c0]
def passV (p : Pkt) (z : Rat) : List Ps := (passL p 13).map fun q => (q.1, q.2.1, q.2.2.1, q.2.2.2, z)
theorem rowAt_shift (b s : Rat) : ∀ k, rowAt b s (k + 1) = rowAt (b + s) s k
 | 0 => rfl
 | k + 1 => by
  show rowAt b s (k + 1) + s = rowAt (b + s) s k + s
  rw [rowAt_shift b s k]
theorem rows_range {d s : Rat} : ∀ {k n : Nat} {b : Rat}, (∀ j, j < k → rowAt b s j < d) → ¬ rowAt b s k < d → k < n → rowsF d s n b = (List.range k).map (rowAt b s)
 | 0, n + 1, b, _, h, _ => by
  unfold rowsF
  rw [if_neg (show ¬ b < d from h)]
  rfl
 | k + 1, n + 1, b, h1, h2, h3 => by
  unfold rowsF
  rw [if_pos (show b < d from h1 0 (by omega))]
  rw [rows_range (k := k) (n := n) (b := b + s) (fun j hj => by rw [← rowAt_shift]; exact h1 (j + 1) (by omega)) (by rw [← rowAt_shift]; exact h2) (by omega)]
  rw [List.range_succ_eq_map, List.map_cons, List.map_map]
  congr 1
  exact List.map_congr_left fun j _ => (rowAt_shift b s j).symm
theorem rows_many {d s : Rat} : ∀ {k n : Nat} {b : Rat}, (∀ j, j < k → rowAt b s j < d) → k ≤ n → k ≤ (rowsF d s n b).length
 | 0, _, _, _, _ => Nat.zero_le _
 | k + 1, n + 1, b, h1, h3 => by
  unfold rowsF
  rw [if_pos (show b < d from h1 0 (by omega)), List.length_cons]
  exact Nat.succ_le_succ (rows_many (k := k) (n := n) (b := b + s) (fun j hj => by rw [← rowAt_shift]; exact h1 (j + 1) (by omega)) (by omega))
theorem passL_wide {p : Pkt} (h : p.a < p.c) (n : Nat) : passL p n = (p.a, p.b, p.a, p.d) :: (p.c, p.b, p.c, p.d) :: ((rowsF p.d (p.r + p.r) n p.b).map (fun y => (p.a, y, p.c, y)) ++ [(p.a, p.d, p.c, p.d)]) := by
 unfold passL
 rw [if_pos h]
structure Rows (p : Pkt) : Prop where
 rr : Sq (p.r + p.r)
 y : ∀ k, k ≤ 11 → Sq (rowAt p.b (p.r + p.r) k)
theorem pl_passes_ok (p : Pkt) (z : Rat) (pa : Addr) (w : World) (hp : Pow w) (hP : Plan w pa) (hS : SqPk p) (hz : Sq z) (hY : Rows p) (hfit : (passL p 13).length ≤ 12) :
  Calls Tryz.prog 29 #[pkv p, rv z] w fun e w' => ∃ A m c, e = .returned (.slice A m c) ∧ OwnK kPs 61 w' w.heap.size (.slice A m c) (passV p z) ∧ Below w.heap.size w w' := by
 rcases Classical.em (p.a < p.c) with hw | hw
 ·refine (pl_passes_w p z pa w hp hP hS hz hY.rr hY.y hw).mono ?_
  rintro e w' (⟨k, A, c, hk, h1, h2, rfl, hO, hb⟩ | ⟨h1, -⟩)
  ·refine ⟨A, k + 3, c, rfl, ?_, hb⟩
   have : passV p z = ((p.a, p.b, p.a, p.d, z) :: (p.c, p.b, p.c, p.d, z) :: (List.range k).map (fun j => (p.a, rowAt p.b (p.r + p.r) j, p.c, rowAt p.b (p.r + p.r) j, z))) ++ [(p.a, p.d, p.c, p.d, z)] := by
    unfold passV
    rw [passL_wide hw, rows_range h1 h2 (by omega)]
    simp [Function.comp_def]
   rw [this]
   exact hO
  ·exfalso
   have := rows_many (n := 13) h1 (by decide)
   rw [passL_wide hw] at hfit
   simp at hfit
   omega
 ·refine (pl_passes_n p z w hp hS hz hw).mono ?_
  rintro e w' ⟨A, c, rfl, hO, hb⟩
  refine ⟨A, 1, c, rfl, ?_, hb⟩
  have : passV p z = [(p.a, p.b, p.a, p.d, z)] := by
   unfold passV passL
   rw [if_neg hw]
   rfl
  rw [this]
  exact hO
theorem pl_passes_bad (p : Pkt) (z : Rat) (pa : Addr) (w : World) (hp : Pow w) (hP : Plan w pa) (hS : SqPk p) (hz : Sq z) (hY : Rows p) (hfit : ¬ (passL p 13).length ≤ 12) :
  Calls Tryz.prog 29 #[pkv p, rv z] w fun e w' => e = .panicked (chain pa false) ∧ Below w.heap.size w w' := by
 have hw : p.a < p.c := by
  rcases Classical.em (p.a < p.c) with hw | hw
  ·exact hw
  ·exfalso
   apply hfit
   unfold passL
   rw [if_neg hw]
   simp
 refine (pl_passes_w p z pa w hp hP hS hz hY.rr hY.y hw).mono ?_
 rintro e w' (⟨k, A, c, hk, h1, h2, -⟩ | ⟨-, he, hb⟩)
 ·exfalso
  apply hfit
  rw [passL_wide hw, rows_range h1 h2 (by omega)]
  simp
  omega
 ·exact ⟨he, hb⟩
theorem pl_P1_fit (b0 b1 b2 b3 b4 b5 : Nat) (x0 y0 x1 y1 r z : Rat) (pa : Addr) (w : World) (hp : Pow w) (hP : Plan w pa) (g0 : Blk w b0 #[.string (itx x0.num), .string (itx (x0.den : Int))] 25) (g1 : Blk w b1 #[.string (itx y0.num), .string (itx (y0.den : Int))] 25) (g2 : Blk w b2 #[.string (itx x1.num), .string (itx (x1.den : Int))] 25) (g3 : Blk w b3 #[.string (itx y1.num), .string (itx (y1.den : Int))] 25) (g4 : Blk w b4 #[.string (itx r.num), .string (itx (r.den : Int))] 25) (g5 : Blk w b5 #[.string (itx z.num), .string (itx (z.den : Int))] 25) (hI : Inp x0 y0 x1 y1 r) (hz : Sq z) (hY : Rows (Pkt.of x0 y0 x1 y1 r)) (hf : fitsP x0 y0 x1 y1 r = true) (hfit : (passL (Pkt.of x0 y0 x1 y1 r) 13).length ≤ 12) :
  Calls Tryz.prog 27 #[.pointer (some ⟨b0, 0, none⟩), .pointer (some ⟨b1, 0, none⟩), .pointer (some ⟨b2, 0, none⟩), .pointer (some ⟨b3, 0, none⟩), .pointer (some ⟨b4, 0, none⟩), .pointer (some ⟨b5, 0, none⟩)] w fun e w' => ∃ A m c, e = .returned (.slice A m c) ∧ OwnK kPs 61 w' w.heap.size (.slice A m c) (passV (Pkt.of x0 y0 x1 y1 r) z) ∧ Below w.heap.size w w' := by
 have NP := fun W hp hP => pl_new x0 y0 x1 y1 r pa W hp hP hI.h0 hI.h1 hI.h2 hI.h3 hI.h4 hI.hr hI.hx hI.hy
 rw [hf] at NP
 have hh0 : 0 < w.heap.size := World.block_lt_of_cell? _ _ hP
 have PS := fun W hp hP => pl_passes_ok (Pkt.of x0 y0 x1 y1 r) z pa W hp hP hI.sq hz hY hfit
 generalize passV (Pkt.of x0 y0 x1 y1 r) z = RW at *
 generalize pkv (Pkt.of x0 y0 x1 y1 r) = PK at *
 clear hI hf hz hY hfit
 unfold rcv rv at NP
 simp only [if_true] at NP
 unfold rv at PS
 generalize itx x0.num = a1 at *
 generalize itx (x0.den : Int) = a2 at *
 generalize itx y0.num = b1 at *
 generalize itx (y0.den : Int) = b2 at *
 generalize itx x1.num = c1 at *
 generalize itx (x1.den : Int) = c2 at *
 generalize itx y1.num = d1 at *
 generalize itx (y1.den : Int) = d2 at *
 generalize itx r.num = r1 at *
 generalize itx (r.den : Int) = r2 at *
 generalize itx z.num = z1 at *
 generalize itx (z.den : Int) = z2 at *
 go_enter Tryz.func27, Tryz.ntmps27
 go_wp2
 have hb1 := bZd (Below.refl w.heap.size w)
 refine rZu (fun i => i == 10 || i == 11) (fun W => Below w.drew.heap.size w.drew W) (by kernel_rfl) (cZb _) (Below.refl _ _) ?_
 refine wpU_f 0 7 (h1 := by intro W hW; have e0 := (g0.drew.below hW).cell 0; have e1 := (g0.drew.below hW).cell 1; go_simp; try rfl) (h3 := ?_)
 refine wpU_f 1 8 (h1 := by intro W hW; have e0 := (g1.drew.below hW).cell 0; have e1 := (g1.drew.below hW).cell 1; go_simp; try rfl) (h3 := ?_)
 apply wpU_e 2 9
 refine wpU_f 3 10 (h1 := by intro W hW; have e0 := (g2.drew.below hW).cell 0; have e1 := (g2.drew.below hW).cell 1; go_simp; try rfl) (h3 := ?_)
 refine wpU_f 4 11 (h1 := by intro W hW; have e0 := (g3.drew.below hW).cell 0; have e1 := (g3.drew.below hW).cell 1; go_simp; try rfl) (h3 := ?_)
 apply wpU_e 5 12
 apply wpU_e 6 13
 refine wpU_f 7 14 (h1 := by intro W hW; have e0 := (g4.drew.below hW).cell 0; have e1 := (g4.drew.below hW).cell 1; go_simp; try rfl) (h3 := ?_)
 refine wpU_f 9 16 (h1 := by intro W hW; have e0 := (g5.drew.below hW).cell 0; have e1 := (g5.drew.below hW).cell 1; go_simp; try rfl) (h3 := ?_)
 refine wpU_ca 8 15 Tryz.func28 (fun W hW => NP W (hp.below (bZs hb1 hW)) (hP.below (bZs hb1 hW) hh0)) ?_
 refine wpU_ac ?_
 refine wpU_late (by kernel_rfl) (fun W1 hW1 => ?_)
 have hB2 := bZs hb1 hW1
 clear NP
 refine wpAny_step1 (i := 10) (by kernel_rfl) rfl (by rfl) (fun K hK => ?_)
 go_simp
 go_at_call 29
 refine (PS _ (hp.below hB2) (hP.below hB2 hh0)).mono ?_
 rintro e w3 ⟨XA, xm, xc, rfl, HO, hb3⟩
 refine hK _ _ ?_
 clear hK K PS
 refine wpAny_last (i := 11) (by kernel_rfl) rfl (by kernel_rfl) (by rfl) (fun K hK => ?_)
 go_simp
 refine hK _ _ ?_
 clear hK K
 go_wp2
 go_ret
 exact ⟨_, _, _, rfl, Kd.R_lower HO (bZz hB2), bZs hB2 hb3⟩
theorem pl_P1_full (b0 b1 b2 b3 b4 b5 : Nat) (x0 y0 x1 y1 r z : Rat) (pa : Addr) (w : World) (hp : Pow w) (hP : Plan w pa) (g0 : Blk w b0 #[.string (itx x0.num), .string (itx (x0.den : Int))] 25) (g1 : Blk w b1 #[.string (itx y0.num), .string (itx (y0.den : Int))] 25) (g2 : Blk w b2 #[.string (itx x1.num), .string (itx (x1.den : Int))] 25) (g3 : Blk w b3 #[.string (itx y1.num), .string (itx (y1.den : Int))] 25) (g4 : Blk w b4 #[.string (itx r.num), .string (itx (r.den : Int))] 25) (g5 : Blk w b5 #[.string (itx z.num), .string (itx (z.den : Int))] 25) (hI : Inp x0 y0 x1 y1 r) (hz : Sq z) (hY : Rows (Pkt.of x0 y0 x1 y1 r)) (hf : fitsP x0 y0 x1 y1 r = true) (hfit : ¬ (passL (Pkt.of x0 y0 x1 y1 r) 13).length ≤ 12) :
  Calls Tryz.prog 27 #[.pointer (some ⟨b0, 0, none⟩), .pointer (some ⟨b1, 0, none⟩), .pointer (some ⟨b2, 0, none⟩), .pointer (some ⟨b3, 0, none⟩), .pointer (some ⟨b4, 0, none⟩), .pointer (some ⟨b5, 0, none⟩)] w fun e w' => e = .panicked (chain pa false) ∧ Below w.heap.size w w' := by
 have NP := fun W hp hP => pl_new x0 y0 x1 y1 r pa W hp hP hI.h0 hI.h1 hI.h2 hI.h3 hI.h4 hI.hr hI.hx hI.hy
 rw [hf] at NP
 have hh0 : 0 < w.heap.size := World.block_lt_of_cell? _ _ hP
 have PS := fun W hp hP => pl_passes_bad (Pkt.of x0 y0 x1 y1 r) z pa W hp hP hI.sq hz hY hfit
 generalize pkv (Pkt.of x0 y0 x1 y1 r) = PK at *
 clear hI hf hz hY hfit
 unfold rcv rv at NP
 simp only [if_true] at NP
 unfold rv at PS
 generalize itx x0.num = a1 at *
 generalize itx (x0.den : Int) = a2 at *
 generalize itx y0.num = b1 at *
 generalize itx (y0.den : Int) = b2 at *
 generalize itx x1.num = c1 at *
 generalize itx (x1.den : Int) = c2 at *
 generalize itx y1.num = d1 at *
 generalize itx (y1.den : Int) = d2 at *
 generalize itx r.num = r1 at *
 generalize itx (r.den : Int) = r2 at *
 generalize itx z.num = z1 at *
 generalize itx (z.den : Int) = z2 at *
 go_enter Tryz.func27, Tryz.ntmps27
 go_wp2
 have hb1 := bZd (Below.refl w.heap.size w)
 refine rZu (fun i => i == 10 || i == 11) (fun W => Below w.drew.heap.size w.drew W) (by kernel_rfl) (cZb _) (Below.refl _ _) ?_
 refine wpU_f 0 7 (h1 := by intro W hW; have e0 := (g0.drew.below hW).cell 0; have e1 := (g0.drew.below hW).cell 1; go_simp; try rfl) (h3 := ?_)
 refine wpU_f 1 8 (h1 := by intro W hW; have e0 := (g1.drew.below hW).cell 0; have e1 := (g1.drew.below hW).cell 1; go_simp; try rfl) (h3 := ?_)
 apply wpU_e 2 9
 refine wpU_f 3 10 (h1 := by intro W hW; have e0 := (g2.drew.below hW).cell 0; have e1 := (g2.drew.below hW).cell 1; go_simp; try rfl) (h3 := ?_)
 refine wpU_f 4 11 (h1 := by intro W hW; have e0 := (g3.drew.below hW).cell 0; have e1 := (g3.drew.below hW).cell 1; go_simp; try rfl) (h3 := ?_)
 apply wpU_e 5 12
 apply wpU_e 6 13
 refine wpU_f 7 14 (h1 := by intro W hW; have e0 := (g4.drew.below hW).cell 0; have e1 := (g4.drew.below hW).cell 1; go_simp; try rfl) (h3 := ?_)
 refine wpU_f 9 16 (h1 := by intro W hW; have e0 := (g5.drew.below hW).cell 0; have e1 := (g5.drew.below hW).cell 1; go_simp; try rfl) (h3 := ?_)
 refine wpU_ca 8 15 Tryz.func28 (fun W hW => NP W (hp.below (bZs hb1 hW)) (hP.below (bZs hb1 hW) hh0)) ?_
 refine wpU_ac ?_
 refine wpU_late (by kernel_rfl) (fun W1 hW1 => ?_)
 have hB2 := bZs hb1 hW1
 clear NP
 refine wpAny_step1 (i := 10) (by kernel_rfl) rfl (by rfl) (fun K hK => ?_)
 go_simp
 go_at_call 29
 refine (PS _ (hp.below hB2) (hP.below hB2 hh0)).mono ?_
 rintro e w3 ⟨rfl, hb3⟩
 exact ⟨rfl, rfl, bZs hB2 hb3⟩
theorem pl_Pocket_fit (x0 y0 x1 y1 z r : Rat) (pa : Addr) (w : World) (hp : Pow w) (hP : Plan w pa) (hI : Inp x0 y0 x1 y1 r) (hz : Sq z) (hY : Rows (Pkt.of x0 y0 x1 y1 r)) (hf : fitsP x0 y0 x1 y1 r = true) (hfit : (passL (Pkt.of x0 y0 x1 y1 r) 13).length ≤ 12) :
  Calls Tryz.prog 11 #[rv x0, rv y0, rv x1, rv y1, rv z, rv r] w fun e w' => ∃ A m c, e = .returned (.tuple #[.slice A m c, .int .i64 0]) ∧ OwnK kPs 61 w' w.heap.size (.slice A m c) (passV (Pkt.of x0 y0 x1 y1 r) z) ∧ Below w.heap.size w w' := by
 have R1 := fun (b0 b1 b2 b3 b4 b5 : Nat) (W : World) hp hP g0 g1 g2 g3 g4 g5 => pl_P1_fit b0 b1 b2 b3 b4 b5 x0 y0 x1 y1 r z pa W hp hP g0 g1 g2 g3 g4 g5 hI hz hY hf hfit
 have hh0 : 0 < w.heap.size := World.block_lt_of_cell? _ _ hP
 generalize passV (Pkt.of x0 y0 x1 y1 r) z = RG at *
 clear hI hf hz hY hfit
 unfold rv at *
 generalize itx x0.num = a1 at *
 generalize itx (x0.den : Int) = a2 at *
 generalize itx y0.num = b1 at *
 generalize itx (y0.den : Int) = b2 at *
 generalize itx x1.num = c1 at *
 generalize itx (x1.den : Int) = c2 at *
 generalize itx y1.num = d1 at *
 generalize itx (y1.den : Int) = d2 at *
 generalize itx r.num = r1 at *
 generalize itx (r.den : Int) = r2 at *
 generalize itx z.num = z1 at *
 generalize itx (z.den : Int) = z2 at *
 obtain ⟨hB0, k0, k1, k2, k3, k4, k5⟩ := news6 w #[.string a1, .string a2] 25 #[.string b1, .string b2] 25 #[.string c1, .string c2] 25 #[.string d1, .string d2] 25 #[.string z1, .string z2] 25 #[.string r1, .string r2] 25
 have hh6 : 0 < ((((((w.alloc (.cells #[.string a1, .string a2] 25)).alloc (.cells #[.string b1, .string b2] 25)).alloc (.cells #[.string c1, .string c2] 25)).alloc (.cells #[.string d1, .string d2] 25)).alloc (.cells #[.string z1, .string z2] 25)).alloc (.cells #[.string r1, .string r2] 25)).heap.size := by simp
 have CP := cp26_ok 27 #[] #[.pointer (some ⟨w.heap.size, 0, none⟩), .pointer (some ⟨w.heap.size + 1, 0, none⟩), .pointer (some ⟨w.heap.size + 2, 0, none⟩), .pointer (some ⟨w.heap.size + 3, 0, none⟩), .pointer (some ⟨w.heap.size + 5, 0, none⟩), .pointer (some ⟨w.heap.size + 4, 0, none⟩)] (fun v W => OwnK kPs 61 W ((((((w.alloc (.cells #[.string a1, .string a2] 25)).alloc (.cells #[.string b1, .string b2] 25)).alloc (.cells #[.string c1, .string c2] 25)).alloc (.cells #[.string d1, .string d2] 25)).alloc (.cells #[.string z1, .string z2] 25)).alloc (.cells #[.string r1, .string r2] 25)).heap.size v RG) (fun v W g cs t i u ht hk h => OwnK.set h hk (by rcases ht with rfl | rfl <;> decide) i u) ((((((w.alloc (.cells #[.string a1, .string a2] 25)).alloc (.cells #[.string b1, .string b2] 25)).alloc (.cells #[.string c1, .string c2] 25)).alloc (.cells #[.string d1, .string d2] 25)).alloc (.cells #[.string z1, .string z2] 25)).alloc (.cells #[.string r1, .string r2] 25)) (enters_of Tryz.func27 (by kernel_rfl) rfl) (fun W hb => by
  refine (R1 w.heap.size (w.heap.size + 1) (w.heap.size + 2) (w.heap.size + 3) (w.heap.size + 5) (w.heap.size + 4) W (hp.below (bZs hB0 hb)) (hP.below (bZs hB0 hb) hh0) (k0.below hb) (k1.below hb) (k2.below hb) (k3.below hb) (k5.below hb) (k4.below hb)).mono ?_
  rintro e w' ⟨A, m, c, rfl, hO, hb2⟩
  exact ⟨A, m, c, rfl, Kd.R_lower hO (bZz hb), hb2⟩)
 have hmf := mk_fn
 clear R1
 go_enter Tryz.func11, Tryz.ntmps11
 go_wp2_with (go_at_call 26; refine CP.mono ?_; clear CP; rintro e w2 ⟨v, rfl, HO, hb2⟩; obtain ⟨XA, xc, ex⟩ := Kd.R_slice HO; subst ex)
 go_ret2
 exact ⟨_, _, _, rfl, Kd.R_lower HO (bZz hB0), bZs hB0 hb2⟩
theorem pl_Pocket_full (x0 y0 x1 y1 z r : Rat) (pa : Addr) (w : World) (hp : Pow w) (hP : Plan w pa) (hI : Inp x0 y0 x1 y1 r) (hz : Sq z) (hY : Rows (Pkt.of x0 y0 x1 y1 r)) (hf : fitsP x0 y0 x1 y1 r = true) (hfit : ¬ (passL (Pkt.of x0 y0 x1 y1 r) 13).length ≤ 12) :
  Calls Tryz.prog 11 #[rv x0, rv y0, rv x1, rv y1, rv z, rv r] w fun e w' => e = .returned (.tuple #[.slice none 0 0, .int .i64 290]) ∧ Below w.heap.size w w' := by
 have R1 := fun (b0 b1 b2 b3 b4 b5 : Nat) (W : World) hp hP g0 g1 g2 g3 g4 g5 => pl_P1_full b0 b1 b2 b3 b4 b5 x0 y0 x1 y1 r z pa W hp hP g0 g1 g2 g3 g4 g5 hI hz hY hf hfit
 have hh0 : 0 < w.heap.size := World.block_lt_of_cell? _ _ hP
 clear hI hf hz hY hfit
 unfold rv at *
 generalize itx x0.num = a1 at *
 generalize itx (x0.den : Int) = a2 at *
 generalize itx y0.num = b1 at *
 generalize itx (y0.den : Int) = b2 at *
 generalize itx x1.num = c1 at *
 generalize itx (x1.den : Int) = c2 at *
 generalize itx y1.num = d1 at *
 generalize itx (y1.den : Int) = d2 at *
 generalize itx r.num = r1 at *
 generalize itx (r.den : Int) = r2 at *
 generalize itx z.num = z1 at *
 generalize itx (z.den : Int) = z2 at *
 obtain ⟨hB0, k0, k1, k2, k3, k4, k5⟩ := news6 w #[.string a1, .string a2] 25 #[.string b1, .string b2] 25 #[.string c1, .string c2] 25 #[.string d1, .string d2] 25 #[.string z1, .string z2] 25 #[.string r1, .string r2] 25
 have hh6 : 0 < ((((((w.alloc (.cells #[.string a1, .string a2] 25)).alloc (.cells #[.string b1, .string b2] 25)).alloc (.cells #[.string c1, .string c2] 25)).alloc (.cells #[.string d1, .string d2] 25)).alloc (.cells #[.string z1, .string z2] 25)).alloc (.cells #[.string r1, .string r2] 25)).heap.size := by simp
 have CP := cp26_bad 27 #[] #[.pointer (some ⟨w.heap.size, 0, none⟩), .pointer (some ⟨w.heap.size + 1, 0, none⟩), .pointer (some ⟨w.heap.size + 2, 0, none⟩), .pointer (some ⟨w.heap.size + 3, 0, none⟩), .pointer (some ⟨w.heap.size + 5, 0, none⟩), .pointer (some ⟨w.heap.size + 4, 0, none⟩)] pa ((((((w.alloc (.cells #[.string a1, .string a2] 25)).alloc (.cells #[.string b1, .string b2] 25)).alloc (.cells #[.string c1, .string c2] 25)).alloc (.cells #[.string d1, .string d2] 25)).alloc (.cells #[.string z1, .string z2] 25)).alloc (.cells #[.string r1, .string r2] 25)) (hP.below hB0 hh0) hh6 (enters_of Tryz.func27 (by kernel_rfl) rfl) (fun W hb => R1 w.heap.size (w.heap.size + 1) (w.heap.size + 2) (w.heap.size + 3) (w.heap.size + 5) (w.heap.size + 4) W (hp.below (bZs hB0 hb)) (hP.below (bZs hB0 hb) hh0) (k0.below hb) (k1.below hb) (k2.below hb) (k3.below hb) (k5.below hb) (k4.below hb))
 have hmf := mk_fn
 clear R1
 go_enter Tryz.func11, Tryz.ntmps11
 go_wp2_with (go_at_call 26; refine CP.mono ?_; clear CP; rintro e w2 ⟨rfl, hb2⟩)
 go_ret2
 exact ⟨rfl, bZs hB0 hb2⟩
end Go.Proofs.YtociicfjhgfgpaaGreatDoor

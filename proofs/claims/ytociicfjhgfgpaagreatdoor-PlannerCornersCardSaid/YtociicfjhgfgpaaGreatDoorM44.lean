/- planner: passes, where one row is enough: the walk. -/
import Derived.Test.YtociicfjhgfgpaaGreatDoorM43
import Derived.Test.YtociicfjhgfgpaaGreatDoorM40
set_option linter.unusedVariables false
set_option linter.unusedSimpArgs false
namespace Go.Proofs.YtociicfjhgfgpaaGreatDoor
open Go.RowKit Go.Shelf Go.Lib Go.Proofs.YtociicfjhgfgpaaGreatDoorW.PrintWords
set_option maxHeartbeats 32000000 in
set_option maxRecDepth 100000 in
theorem pl_passes1 (p : Pkt) (z : Rat) (w : World) (hp : Pow w) (hS : SqPk p) (hz : Sq z) (h40 : Sm 40 p.r) (hb20 : Sm 8 p.b) (hr8 : Sm 40 (p.r + p.r)) (hw : p.a < p.c) (hh : p.b < p.d) (h1 : ¬ p.b + (p.r + p.r) < p.d) :
  Calls Tryz.prog 29 #[pkv p, rv z] w fun e w' => ∃ A c, e = .returned (.slice A 4 c) ∧ OwnK kPs 61 w' w.heap.size (.slice A 4 c) [(p.a, p.b, p.a, p.d, z), (p.c, p.b, p.c, p.d, z), (p.a, p.b, p.c, p.b, z), (p.a, p.d, p.c, p.d, z)] ∧ Below w.heap.size w w' := by
 have VZ := fun W hp => rat_Valid z W hp hz
 have WI := fun W hp => pl_isWide p.a p.b p.c p.d W hp hS.a hS.c
 have AD1 := fun W hp => rat_Add p.r p.r W hp hS.r hS.r
 have AD2 := fun W hp => rat_Add p.b (p.r + p.r) W hp hS.b (hr8.le (by decide))
 have LS1 := fun W hp => pl_isLess p.b p.d W hp hS.b hS.d
 have LS2 := fun W hp => pl_isLess (p.b + (p.r + p.r)) p.d W hp ((sm_add hb20 hr8).le (by decide)) hS.d
 rw [decide_eq_true hw] at WI
 rw [decide_eq_true hh] at LS1
 rw [decide_eq_false h1] at LS2
 have CO := fun W => pl_check_ok W
 have P1 := fun (W : World) (vs : Value) (L : List Ps) hk hz HO HB hl => pl_pass w (w.heap.size + 2) (w.heap.size + 1) vs L p.a p.b p.a p.d z W hk hz HO HB (Nat.le_add_right _ _) hl
 have P2 := fun (W : World) (vs : Value) (L : List Ps) hk hz HO HB hl => pl_pass w (w.heap.size + 2) (w.heap.size + 1) vs L p.c p.b p.c p.d z W hk hz HO HB (Nat.le_add_right _ _) hl
 have P3 := fun (W : World) (vs : Value) (L : List Ps) hk hz HO HB hl => pl_pass w (w.heap.size + 2) (w.heap.size + 1) vs L p.a p.b p.c p.b z W hk hz HO HB (Nat.le_add_right _ _) hl
 have P4 := fun (W : World) (vs : Value) (L : List Ps) hk hz HO HB hl => pl_pass w (w.heap.size + 2) (w.heap.size + 1) vs L p.a p.d p.c p.d z W hk hz HO HB (Nat.le_add_right _ _) hl
 obtain ⟨Q1, hQ1⟩ : ∃ t : Ps, (p.a, p.b, p.a, p.d, z) = t := ⟨_, rfl⟩
 obtain ⟨Q2, hQ2⟩ : ∃ t : Ps, (p.c, p.b, p.c, p.d, z) = t := ⟨_, rfl⟩
 obtain ⟨Q3, hQ3⟩ : ∃ t : Ps, (p.a, p.b, p.c, p.b, z) = t := ⟨_, rfl⟩
 obtain ⟨Q4, hQ4⟩ : ∃ t : Ps, (p.a, p.d, p.c, p.d, z) = t := ⟨_, rfl⟩
 rw [hQ1] at P1 ⊢
 rw [hQ2] at P2 ⊢
 rw [hQ3] at P3 ⊢
 rw [hQ4] at P4 ⊢
 clear hQ1 hQ2 hQ3 hQ4 hS hz h40 hb20 hr8 hw hh h1
 unfold rv rcv pkv at *
 generalize p.b + (p.r + p.r) = yy at *
 generalize p.r + p.r = ss at *
 generalize itx yy.num = y1 at *
 generalize itx (yy.den : Int) = y2 at *
 generalize itx ss.num = s1 at *
 generalize itx (ss.den : Int) = s2 at *
 generalize itx p.a.num = e1 at *
 generalize itx (p.a.den : Int) = e2 at *
 generalize itx p.b.num = f1 at *
 generalize itx (p.b.den : Int) = f2 at *
 generalize itx p.c.num = t1 at *
 generalize itx (p.c.den : Int) = t2 at *
 generalize itx p.d.num = h1 at *
 generalize itx (p.d.den : Int) = h2 at *
 generalize itx p.x0.num = a1 at *
 generalize itx (p.x0.den : Int) = a2 at *
 generalize itx p.y0.num = b1 at *
 generalize itx (p.y0.den : Int) = b2 at *
 generalize itx p.x1.num = c1 at *
 generalize itx (p.x1.den : Int) = c2 at *
 generalize itx p.y1.num = d1 at *
 generalize itx (p.y1.den : Int) = d2 at *
 generalize itx p.r.num = r1 at *
 generalize itx (p.r.den : Int) = r2 at *
 generalize itx z.num = z1 at *
 generalize itx (z.den : Int) = z2 at *
 clear p z yy ss
 have MU1 := fun W => pl_must s1 s2 W
 have MU2 := fun W => pl_must y1 y2 W
 have hB0 : Below w.heap.size w (((w.alloc (.cells #[.string e1, .string e2, .string f1, .string f2, .string t1, .string t2, .string h1, .string h2, .string a1, .string a2, .string b1, .string b2, .string c1, .string c2, .string d1, .string d2, .string r1, .string r2] 71)).alloc (.cells #[.string z1, .string z2] 25)).alloc (.cells #[.slice none 0 0] 34)) := below_alloc (below_alloc (below_alloc (Below.refl _ _) _) _) _
 have k0 := (((Blk.new w #[.string e1, .string e2, .string f1, .string f2, .string t1, .string t2, .string h1, .string h2, .string a1, .string a2, .string b1, .string b2, .string c1, .string c2, .string d1, .string d2, .string r1, .string r2] 71).alloc (.cells #[.string z1, .string z2] 25)).alloc (.cells #[.slice none 0 0] 34))
 have k1 : Blk (((w.alloc (.cells #[.string e1, .string e2, .string f1, .string f2, .string t1, .string t2, .string h1, .string h2, .string a1, .string a2, .string b1, .string b2, .string c1, .string c2, .string d1, .string d2, .string r1, .string r2] 71)).alloc (.cells #[.string z1, .string z2] 25)).alloc (.cells #[.slice none 0 0] 34)) (w.heap.size + 1) #[.string z1, .string z2] 25 := by
  have := ((Blk.new (w.alloc (.cells #[.string e1, .string e2, .string f1, .string f2, .string t1, .string t2, .string h1, .string h2, .string a1, .string a2, .string b1, .string b2, .string c1, .string c2, .string d1, .string d2, .string r1, .string r2] 71)) #[.string z1, .string z2] 25).alloc (.cells #[.slice none 0 0] 34))
  rwa [World.size_alloc] at this
 have k2 : Blk (((w.alloc (.cells #[.string e1, .string e2, .string f1, .string f2, .string t1, .string t2, .string h1, .string h2, .string a1, .string a2, .string b1, .string b2, .string c1, .string c2, .string d1, .string d2, .string r1, .string r2] 71)).alloc (.cells #[.string z1, .string z2] 25)).alloc (.cells #[.slice none 0 0] 34)) (w.heap.size + 2) #[.slice none 0 0] 34 := by
  have := (Blk.new ((w.alloc (.cells #[.string e1, .string e2, .string f1, .string f2, .string t1, .string t2, .string h1, .string h2, .string a1, .string a2, .string b1, .string b2, .string c1, .string c2, .string d1, .string d2, .string r1, .string r2] 71)).alloc (.cells #[.string z1, .string z2] 25)) #[.slice none 0 0] 34)
  rwa [World.size_alloc, World.size_alloc] at this
 have hmf := mk_fn
 have o2 := k2.cell 0
 go_enter Tryz.func29, Tryz.ntmps29
 go_wp2_with (first | (go_at_call 44; refine (VZ _ (hp.below hB0)).mono ?_; rintro e wq ⟨rfl, hb2⟩) | (go_at_call 67; refine (CO _).mono ?_; rintro e w2 ⟨rfl, rfl⟩))
 have hB1 := below_drew (below_step hB0 hb2)
 have S0 := (k0.below hb2).drew
 have S1 := (k1.below hb2).drew
 have S2 := (k2.below hb2).drew
 clear hB0 hb2 k0 k1 k2 VZ o2
 refine wp_region_V (fun _ => false) (fun W => Below w2.drew.heap.size w2.drew W) (fun W => Below w2.drew.heap.size w2.drew W) (by kernel_rfl) (closed_below _) (Below.refl _ _) ?_
 apply wpV_tk 0 (some 16)
 ·intro W hW
  go_simp
  try rfl
 apply wpV_act
 apply Exists.intro
 refine ⟨?_, ?_⟩
 ·go_simp
  try rfl
 apply wpV_tk 1 (some 17)
 ·intro W hW
  go_simp
  try rfl
 apply wpV_act
 apply Exists.intro
 refine ⟨?_, ?_⟩
 ·go_simp
  try rfl
 apply wpV_tk 2 (some 18)
 ·intro W hW
  go_simp
  try rfl
 apply wpV_act
 apply Exists.intro
 refine ⟨?_, ?_⟩
 ·go_simp
  try rfl
 apply wpV_tk 3 (some 19)
 ·intro W hW
  have e0 := (S0.below hW).cell 0; have e1 := (S0.below hW).cell 1
  go_simp
  try rfl
 apply wpV_act
 apply Exists.intro
 refine ⟨?_, ?_⟩
 ·go_simp
  try rfl
 apply wpV_tk 4 (some 20)
 ·intro W hW
  go_simp
  try rfl
 apply wpV_act
 apply Exists.intro
 refine ⟨?_, ?_⟩
 ·go_simp
  try rfl
 apply wpV_tk 5 (some 21)
 ·intro W hW
  go_simp
  try rfl
 apply wpV_act
 apply Exists.intro
 refine ⟨?_, ?_⟩
 ·go_simp
  try rfl
 apply wpV_tk 6 (some 22)
 ·intro W hW
  go_simp
  try rfl
 apply wpV_act
 apply Exists.intro
 refine ⟨?_, ?_⟩
 ·go_simp
  try rfl
 apply wpV_tk 7 (some 23)
 ·intro W hW
  have e2 := (S0.below hW).cell 2; have e3 := (S0.below hW).cell 3
  go_simp
  try rfl
 apply wpV_act
 apply Exists.intro
 refine ⟨?_, ?_⟩
 ·go_simp
  try rfl
 apply wpV_tk 8 (some 24)
 ·intro W hW
  go_simp
  try rfl
 apply wpV_act
 apply Exists.intro
 refine ⟨?_, ?_⟩
 ·go_simp
  try rfl
 apply wpV_tk 9 (some 25)
 ·intro W hW
  go_simp
  try rfl
 apply wpV_act
 apply Exists.intro
 refine ⟨?_, ?_⟩
 ·go_simp
  try rfl
 apply wpV_tk 10 (some 26)
 ·intro W hW
  go_simp
  try rfl
 apply wpV_act
 apply Exists.intro
 refine ⟨?_, ?_⟩
 ·go_simp
  try rfl
 apply wpV_tk 11 (some 27)
 ·intro W hW
  have e4 := (S0.below hW).cell 4; have e5 := (S0.below hW).cell 5
  go_simp
  try rfl
 apply wpV_act
 apply Exists.intro
 refine ⟨?_, ?_⟩
 ·go_simp
  try rfl
 apply wpV_tk 12 (some 28)
 ·intro W hW
  go_simp
  try rfl
 apply wpV_act
 apply Exists.intro
 refine ⟨?_, ?_⟩
 ·go_simp
  try rfl
 apply wpV_tk 13 (some 29)
 ·intro W hW
  go_simp
  try rfl
 apply wpV_act
 apply Exists.intro
 refine ⟨?_, ?_⟩
 ·go_simp
  try rfl
 apply wpV_tk 14 (some 30)
 ·intro W hW
  go_simp
  try rfl
 apply wpV_act
 apply Exists.intro
 refine ⟨?_, ?_⟩
 ·go_simp
  try rfl
 apply wpV_tk 15 (some 31)
 ·intro W hW
  have e6 := (S0.below hW).cell 6; have e7 := (S0.below hW).cell 7
  go_simp
  try rfl
 apply wpV_act
 apply Exists.intro
 refine ⟨?_, ?_⟩
 ·go_simp
  try rfl
 refine wpV_n4 (i1 := 16) (i2 := 17) (i3 := 18) (i4 := 19) (f1 := (fun n => .pointer (some ⟨n, 0, none⟩))) (f2 := (fun n => .pointer (some ⟨n, 0, none⟩))) (f3 := (fun n => .pointer (some ⟨n, 0, none⟩))) (f4 := (fun n => .pointer (some ⟨n, 0, none⟩))) (c1 := #[.string ⟨#[]⟩, .string ⟨#[]⟩]) (c2 := #[.string ⟨#[]⟩, .string ⟨#[]⟩]) (c3 := #[.string ⟨#[]⟩, .string ⟨#[]⟩]) (c4 := #[.string ⟨#[]⟩, .string ⟨#[]⟩]) (t1 := 25) (t2 := 25) (t3 := 25) (t4 := 25) (by kernel_rfl) rfl rfl rfl rfl (by kernel_rfl) (by kernel_rfl) (by kernel_rfl) (by kernel_rfl) (by kernel_rfl) (by kernel_rfl) (by kernel_rfl) (by kernel_rfl) (by kernel_rfl) (by kernel_rfl) (by kernel_rfl) (by kernel_rfl) (by kernel_rfl) (by kernel_rfl) (by kernel_rfl) (by kernel_rfl) (by kernel_rfl) (by kernel_rfl) (by kernel_rfl) (by kernel_rfl) (by kernel_rfl) (by kernel_rfl) (by kernel_rfl) (by kernel_rfl) (by kernel_rfl) (by kernel_rfl) (by kernel_rfl) (by kernel_rfl) (by kernel_rfl) (by kernel_rfl) (by kernel_rfl) (by kernel_rfl) (by kernel_rfl) (by kernel_rfl) (by kernel_rfl) (by kernel_rfl) (by kernel_rfl) (by kernel_rfl) (by kernel_rfl) (by kernel_rfl) (by kernel_rfl) (by kernel_rfl) (by decide) (by kernel_rfl) (by decide) (by kernel_rfl) (by decide) (by kernel_rfl) (by decide) (by kernel_rfl) (by decide) (by kernel_rfl) (by decide) (by kernel_rfl) (by decide) (by kernel_rfl) (by decide) (by kernel_rfl) (by decide) (by kernel_rfl) (by decide) (by kernel_rfl) (by decide) (by kernel_rfl) (by decide) ⟨by rfl, fun W => by go_simp; try rfl⟩ ⟨by rfl, fun W => by go_simp; try rfl⟩ ⟨by rfl, fun W => by go_simp; try rfl⟩ ⟨by rfl, fun W => by go_simp; try rfl⟩ ?_
 intro g0 g1 g2 g3 hg0 hg1 hg2 hg3 n01 n02 n03 n12 n13 n23
 have G0 : w2.drew.heap.size ≤ g0 := by
  obtain ⟨Wa, h, e⟩ := hg0
  rw [e]
  exact below_size h
 have G1 : w2.drew.heap.size ≤ g1 := by
  obtain ⟨Wa, h, e⟩ := hg1
  rw [e]
  exact below_size h
 have G2 : w2.drew.heap.size ≤ g2 := by
  obtain ⟨Wa, h, e⟩ := hg2
  rw [e]
  exact below_size h
 have G3 : w2.drew.heap.size ≤ g3 := by
  obtain ⟨Wa, h, e⟩ := hg3
  rw [e]
  exact below_size h
 have LT := S2.lt
 have LT2 : w.heap.size + 2 < w2.drew.heap.size := LT
 have m0 : w.heap.size + 2 ≠ g0 := by omega
 have m1 : w.heap.size + 2 ≠ g1 := by omega
 have m2 : w.heap.size + 2 ≠ g2 := by omega
 have m3 : w.heap.size + 2 ≠ g3 := by omega
 clear hg0 hg1 hg2 hg3 LT LT2
 refine wpV_store (fun W => ((((Below w2.drew.heap.size w2.drew W ∧ Blk W g0 #[.string e1, .string e2] 25) ∧ Blk W g1 #[.string ⟨#[]⟩, .string ⟨#[]⟩] 25) ∧ Blk W g2 #[.string ⟨#[]⟩, .string ⟨#[]⟩] 25) ∧ Blk W g3 #[.string ⟨#[]⟩, .string ⟨#[]⟩] 25)) (i := 20) (d := none) rfl rfl (by kernel_rfl) (closed_and (closed_and (closed_and (closed_and (closed_below _) (closed_blk _ _ _)) (closed_blk _ _ _)) (closed_blk _ _ _)) (closed_blk _ _ _)) (fun _ h => h.1.1.1.1) (by rfl) (fun W hW => ⟨W.setRow g0 #[.string e1, .string e2], run_store_row2 25 (.tmp 6) (.tmp 19) rfl g0 #[.string e1, .string e2] rfl rfl 25 #[.string ⟨#[]⟩, .string ⟨#[]⟩] hW.1.1.1.2 (by kernel_rfl) rfl (by simp [Value.oneCell']), ⟨⟨⟨⟨below_row hW.1.1.1.1 G0 #[.string e1, .string e2], hW.1.1.1.2.row #[.string e1, .string e2]⟩, hW.1.1.2.farR (Ne.symm n01) #[.string e1, .string e2]⟩, hW.1.2.farR (Ne.symm n02) #[.string e1, .string e2]⟩, hW.2.farR (Ne.symm n03) #[.string e1, .string e2]⟩⟩) ?_
 refine wpV_store (fun W => ((((Below w2.drew.heap.size w2.drew W ∧ Blk W g0 #[.string e1, .string e2] 25) ∧ Blk W g1 #[.string f1, .string f2] 25) ∧ Blk W g2 #[.string ⟨#[]⟩, .string ⟨#[]⟩] 25) ∧ Blk W g3 #[.string ⟨#[]⟩, .string ⟨#[]⟩] 25)) (i := 21) (d := none) rfl rfl (by kernel_rfl) (closed_and (closed_and (closed_and (closed_and (closed_below _) (closed_blk _ _ _)) (closed_blk _ _ _)) (closed_blk _ _ _)) (closed_blk _ _ _)) (fun _ h => h.1.1.1.1) (by rfl) (fun W hW => ⟨W.setRow g1 #[.string f1, .string f2], run_store_row2 25 (.tmp 7) (.tmp 23) rfl g1 #[.string f1, .string f2] rfl rfl 25 #[.string ⟨#[]⟩, .string ⟨#[]⟩] hW.1.1.2 (by kernel_rfl) rfl (by simp [Value.oneCell']), ⟨⟨⟨⟨below_row hW.1.1.1.1 G1 #[.string f1, .string f2], hW.1.1.1.2.farR n01 #[.string f1, .string f2]⟩, hW.1.1.2.row #[.string f1, .string f2]⟩, hW.1.2.farR (Ne.symm n12) #[.string f1, .string f2]⟩, hW.2.farR (Ne.symm n13) #[.string f1, .string f2]⟩⟩) ?_
 refine wpV_store (fun W => ((((Below w2.drew.heap.size w2.drew W ∧ Blk W g0 #[.string e1, .string e2] 25) ∧ Blk W g1 #[.string f1, .string f2] 25) ∧ Blk W g2 #[.string t1, .string t2] 25) ∧ Blk W g3 #[.string ⟨#[]⟩, .string ⟨#[]⟩] 25)) (i := 22) (d := none) rfl rfl (by kernel_rfl) (closed_and (closed_and (closed_and (closed_and (closed_below _) (closed_blk _ _ _)) (closed_blk _ _ _)) (closed_blk _ _ _)) (closed_blk _ _ _)) (fun _ h => h.1.1.1.1) (by rfl) (fun W hW => ⟨W.setRow g2 #[.string t1, .string t2], run_store_row2 25 (.tmp 8) (.tmp 27) rfl g2 #[.string t1, .string t2] rfl rfl 25 #[.string ⟨#[]⟩, .string ⟨#[]⟩] hW.1.2 (by kernel_rfl) rfl (by simp [Value.oneCell']), ⟨⟨⟨⟨below_row hW.1.1.1.1 G2 #[.string t1, .string t2], hW.1.1.1.2.farR n02 #[.string t1, .string t2]⟩, hW.1.1.2.farR n12 #[.string t1, .string t2]⟩, hW.1.2.row #[.string t1, .string t2]⟩, hW.2.farR (Ne.symm n23) #[.string t1, .string t2]⟩⟩) ?_
 refine wpV_store (fun W => ((((Below w2.drew.heap.size w2.drew W ∧ Blk W g0 #[.string e1, .string e2] 25) ∧ Blk W g1 #[.string f1, .string f2] 25) ∧ Blk W g2 #[.string t1, .string t2] 25) ∧ Blk W g3 #[.string h1, .string h2] 25)) (i := 23) (d := none) rfl rfl (by kernel_rfl) (closed_and (closed_and (closed_and (closed_and (closed_below _) (closed_blk _ _ _)) (closed_blk _ _ _)) (closed_blk _ _ _)) (closed_blk _ _ _)) (fun _ h => h.1.1.1.1) (by rfl) (fun W hW => ⟨W.setRow g3 #[.string h1, .string h2], run_store_row2 25 (.tmp 9) (.tmp 31) rfl g3 #[.string h1, .string h2] rfl rfl 25 #[.string ⟨#[]⟩, .string ⟨#[]⟩] hW.2 (by kernel_rfl) rfl (by simp [Value.oneCell']), ⟨⟨⟨⟨below_row hW.1.1.1.1 G3 #[.string h1, .string h2], hW.1.1.1.2.farR n03 #[.string h1, .string h2]⟩, hW.1.1.2.farR n13 #[.string h1, .string h2]⟩, hW.1.2.farR n23 #[.string h1, .string h2]⟩, hW.2.row #[.string h1, .string h2]⟩⟩) ?_
 refine wpV_done (by kernel_rfl) (fun w4 hW4 => ?_) _
 go_simp
 obtain ⟨⟨⟨⟨hbW, KA⟩, KB⟩, KC⟩, KD⟩ := hW4
 have K0 := S0.below hbW
 have KZ := S1.below hbW
 have KO := S2.below hbW
 have HB := below_step hB1 hbW
 have HO : OwnK kPs 61 w4 w.heap.size (.slice none 0 0) [] := OwnK.nil _ _ _ _
 clear hbW S0 S1 S2 hB1 G0 G1 G2 G3
 have pc0 := K0.c0
 have pc1 := K0.c1
 have pc2 := K0.c2
 have pc3 := K0.c3
 have pc4 := K0.c4
 have pc5 := K0.c5
 have pc6 := K0.c6
 have pc7 := K0.c7
 have pc16 := K0.c16
 have pc17 := K0.c17
 have KAc1 := KA.c0
 have KAc2 := KA.c1
 have KBc1 := KB.c0
 have KBc2 := KB.c1
 have KCc1 := KC.c0
 have KCc2 := KC.c1
 have KDc1 := KD.c0
 have KDc2 := KD.c1
 have TK1 : True := trivial
 have TK2 : True := trivial
 have TK3 : True := trivial
 have TK4 : True := trivial
 have TK5 : True := trivial
 have TK6 : True := trivial
 have TK7 : True := trivial
 have TK8 : True := trivial
 have TK9 : True := trivial
 have TK10 : True := trivial
 have TK11 : True := trivial
 have TK12 : True := trivial
 have TK13 : True := trivial
 have TK14 : True := trivial
 have TK15 : True := trivial
 have TK16 : True := trivial
 have TK17 : True := trivial
 have TK18 : True := trivial
 have TK19 : True := trivial
 have TK20 : True := trivial
 go_wp2_with (first | (go_at_call 76; clear TK1; refine (P1 _ _ [] KO KZ HO HB (by simp)).mono ?_; rintro e v1 ⟨vs, rfl, KO2, HO2, HB2, ST⟩; replace K0 := ST.blk K0 (by omega) (OwnK.not_blk HO K0 (by decide)); replace KZ := ST.blk KZ (by omega) (OwnK.not_blk HO KZ (by decide)); replace KA := ST.blk KA ((Ne.symm m0)) (OwnK.not_blk HO KA (by decide)); replace KB := ST.blk KB ((Ne.symm m1)) (OwnK.not_blk HO KB (by decide)); replace KC := ST.blk KC ((Ne.symm m2)) (OwnK.not_blk HO KC (by decide)); replace KD := ST.blk KD ((Ne.symm m3)) (OwnK.not_blk HO KD (by decide)); replace KO := KO2; replace HO := HO2; replace HB := HB2; clear KO2 HO2 HB2; replace pc0 := K0.c0; replace pc1 := K0.c1; replace pc2 := K0.c2; replace pc3 := K0.c3; replace pc4 := K0.c4; replace pc5 := K0.c5; replace pc6 := K0.c6; replace pc7 := K0.c7; replace pc16 := K0.c16; replace pc17 := K0.c17; replace KAc1 := KA.c0; replace KAc2 := KA.c1; replace KBc1 := KB.c0; replace KBc2 := KB.c1; replace KCc1 := KC.c0; replace KCc2 := KC.c1; replace KDc1 := KD.c0; replace KDc2 := KD.c1) | (go_at_call 74; clear TK2; refine (WI _ (hp.below HB)).mono ?_; rintro e v2 ⟨rfl, hb⟩; replace K0 := K0.below hb; replace KZ := KZ.below hb; replace KO := KO.below hb; replace HO := OwnK.below HO hb; replace HB := below_step HB hb; replace KA := KA.below hb; replace KB := KB.below hb; replace KC := KC.below hb; replace KD := KD.below hb; replace pc0 := K0.c0; replace pc1 := K0.c1; replace pc2 := K0.c2; replace pc3 := K0.c3; replace pc4 := K0.c4; replace pc5 := K0.c5; replace pc6 := K0.c6; replace pc7 := K0.c7; replace pc16 := K0.c16; replace pc17 := K0.c17; replace KAc1 := KA.c0; replace KAc2 := KA.c1; replace KBc1 := KB.c0; replace KBc2 := KB.c1; replace KCc1 := KC.c0; replace KCc2 := KC.c1; replace KDc1 := KD.c0; replace KDc2 := KD.c1; clear hb) | (go_at_call 76; clear TK3; refine (P2 _ _ [Q1] KO KZ HO HB (by simp)).mono ?_; rintro e v3 ⟨vs, rfl, KO2, HO2, HB2, ST⟩; replace K0 := ST.blk K0 (by omega) (OwnK.not_blk HO K0 (by decide)); replace KZ := ST.blk KZ (by omega) (OwnK.not_blk HO KZ (by decide)); replace KA := ST.blk KA ((Ne.symm m0)) (OwnK.not_blk HO KA (by decide)); replace KB := ST.blk KB ((Ne.symm m1)) (OwnK.not_blk HO KB (by decide)); replace KC := ST.blk KC ((Ne.symm m2)) (OwnK.not_blk HO KC (by decide)); replace KD := ST.blk KD ((Ne.symm m3)) (OwnK.not_blk HO KD (by decide)); replace KO := KO2; replace HO := HO2; replace HB := HB2; clear KO2 HO2 HB2; replace pc0 := K0.c0; replace pc1 := K0.c1; replace pc2 := K0.c2; replace pc3 := K0.c3; replace pc4 := K0.c4; replace pc5 := K0.c5; replace pc6 := K0.c6; replace pc7 := K0.c7; replace pc16 := K0.c16; replace pc17 := K0.c17; replace KAc1 := KA.c0; replace KAc2 := KA.c1; replace KBc1 := KB.c0; replace KBc2 := KB.c1; replace KCc1 := KC.c0; replace KCc2 := KC.c1; replace KDc1 := KD.c0; replace KDc2 := KD.c1) | (go_at_call 19; clear TK4; refine (AD1 _ (hp.below HB)).mono ?_; rintro e v4 ⟨rfl, hb⟩; replace K0 := K0.below hb; replace KZ := KZ.below hb; replace KO := KO.below hb; replace HO := OwnK.below HO hb; replace HB := below_step HB hb; replace KA := KA.below hb; replace KB := KB.below hb; replace KC := KC.below hb; replace KD := KD.below hb; replace pc0 := K0.c0; replace pc1 := K0.c1; replace pc2 := K0.c2; replace pc3 := K0.c3; replace pc4 := K0.c4; replace pc5 := K0.c5; replace pc6 := K0.c6; replace pc7 := K0.c7; replace pc16 := K0.c16; replace pc17 := K0.c17; replace KAc1 := KA.c0; replace KAc2 := KA.c1; replace KBc1 := KB.c0; replace KBc2 := KB.c1; replace KCc1 := KC.c0; replace KCc2 := KC.c1; replace KDc1 := KD.c0; replace KDc2 := KD.c1; clear hb) | (go_at_call 70; clear TK5; refine (MU1 _).mono ?_; rintro e v5 ⟨rfl, hb⟩; replace K0 := K0.below hb; replace KZ := KZ.below hb; replace KO := KO.below hb; replace HO := OwnK.below HO hb; replace HB := below_step HB hb; replace KA := KA.below hb; replace KB := KB.below hb; replace KC := KC.below hb; replace KD := KD.below hb; replace pc0 := K0.c0; replace pc1 := K0.c1; replace pc2 := K0.c2; replace pc3 := K0.c3; replace pc4 := K0.c4; replace pc5 := K0.c5; replace pc6 := K0.c6; replace pc7 := K0.c7; replace pc16 := K0.c16; replace pc17 := K0.c17; replace KAc1 := KA.c0; replace KAc2 := KA.c1; replace KBc1 := KB.c0; replace KBc2 := KB.c1; replace KCc1 := KC.c0; replace KCc2 := KC.c1; replace KDc1 := KD.c0; replace KDc2 := KD.c1; clear hb; have wk0 : World.cell? (v5.alloc (.cells #[.string s1, .string s2] 25)) ⟨g1, 0, none⟩ = some (.string f1) := (KB.alloc (.cells #[.string s1, .string s2] 25)).cell 0; have wk1 : World.cell? (v5.alloc (.cells #[.string s1, .string s2] 25)) ⟨g1, 1, none⟩ = some (.string f2) := (KB.alloc (.cells #[.string s1, .string s2] 25)).cell 1))
 have LTo := KO.lt
 have m_KS : w.heap.size + 2 ≠ v5.heap.size := by omega
 have m_KY : w.heap.size + 2 ≠ v5.heap.size + 1 := by omega
 clear LTo wk0 wk1
 have hbX : Below v5.heap.size v5 ((v5.alloc (.cells #[.string s1, .string s2] 25)).alloc (.cells #[.string f1, .string f2] 25)) := below_alloc (below_alloc (Below.refl _ _) _) _
 have KS := (Blk.new v5 #[.string s1, .string s2] 25).alloc (.cells #[.string f1, .string f2] 25)
 have KY : Blk ((v5.alloc (.cells #[.string s1, .string s2] 25)).alloc (.cells #[.string f1, .string f2] 25)) (v5.heap.size + 1) #[.string f1, .string f2] 25 := by
  have := Blk.new (v5.alloc (.cells #[.string s1, .string s2] 25)) #[.string f1, .string f2] 25
  rwa [World.size_alloc] at this
 have KSc1 := KS.cell 0
 have KSc2 := KS.cell 1
 have KYc1 := KY.cell 0
 have KYc2 := KY.cell 1
 replace K0 := K0.below hbX
 replace KZ := KZ.below hbX
 replace KO := KO.below hbX
 replace HO := OwnK.below HO hbX
 replace HB := below_step HB hbX
 replace KA := KA.below hbX
 replace KB := KB.below hbX
 replace KC := KC.below hbX
 replace KD := KD.below hbX
 replace pc0 := K0.c0
 replace pc1 := K0.c1
 replace pc2 := K0.c2
 replace pc3 := K0.c3
 replace pc4 := K0.c4
 replace pc5 := K0.c5
 replace pc6 := K0.c6
 replace pc7 := K0.c7
 replace pc16 := K0.c16
 replace pc17 := K0.c17
 replace KAc1 := KA.c0
 replace KAc2 := KA.c1
 replace KBc1 := KB.c0
 replace KBc2 := KB.c1
 replace KCc1 := KC.c0
 replace KCc2 := KC.c1
 replace KDc1 := KD.c0
 replace KDc2 := KD.c1
 clear hbX
 refine wp_loop_rounds 2 ?_
 rw [rounds_succ]
 go_wp2_with (first | (go_at_call 72; clear TK6; refine (LS1 _ (hp.below HB)).mono ?_; rintro e v6 ⟨rfl, hb⟩; replace K0 := K0.below hb; replace KZ := KZ.below hb; replace KO := KO.below hb; replace HO := OwnK.below HO hb; replace HB := below_step HB hb; replace KA := KA.below hb; replace KB := KB.below hb; replace KC := KC.below hb; replace KD := KD.below hb; replace KS := KS.below hb; replace KY := KY.below hb; replace pc0 := K0.c0; replace pc1 := K0.c1; replace pc2 := K0.c2; replace pc3 := K0.c3; replace pc4 := K0.c4; replace pc5 := K0.c5; replace pc6 := K0.c6; replace pc7 := K0.c7; replace pc16 := K0.c16; replace pc17 := K0.c17; replace KAc1 := KA.c0; replace KAc2 := KA.c1; replace KBc1 := KB.c0; replace KBc2 := KB.c1; replace KCc1 := KC.c0; replace KCc2 := KC.c1; replace KDc1 := KD.c0; replace KDc2 := KD.c1; replace KSc1 := KS.c0; replace KSc2 := KS.c1; replace KYc1 := KY.c0; replace KYc2 := KY.c1; clear hb) | (go_at_call 76; clear TK7; refine (P3 _ _ [Q1, Q2] KO KZ HO HB (by simp)).mono ?_; rintro e v7 ⟨vs, rfl, KO2, HO2, HB2, ST⟩; replace K0 := ST.blk K0 (by omega) (OwnK.not_blk HO K0 (by decide)); replace KZ := ST.blk KZ (by omega) (OwnK.not_blk HO KZ (by decide)); replace KA := ST.blk KA ((Ne.symm m0)) (OwnK.not_blk HO KA (by decide)); replace KB := ST.blk KB ((Ne.symm m1)) (OwnK.not_blk HO KB (by decide)); replace KC := ST.blk KC ((Ne.symm m2)) (OwnK.not_blk HO KC (by decide)); replace KD := ST.blk KD ((Ne.symm m3)) (OwnK.not_blk HO KD (by decide)); replace KS := ST.blk KS ((Ne.symm m_KS)) (OwnK.not_blk HO KS (by decide)); replace KY := ST.blk KY ((Ne.symm m_KY)) (OwnK.not_blk HO KY (by decide)); replace KO := KO2; replace HO := HO2; replace HB := HB2; clear KO2 HO2 HB2; replace pc0 := K0.c0; replace pc1 := K0.c1; replace pc2 := K0.c2; replace pc3 := K0.c3; replace pc4 := K0.c4; replace pc5 := K0.c5; replace pc6 := K0.c6; replace pc7 := K0.c7; replace pc16 := K0.c16; replace pc17 := K0.c17; replace KAc1 := KA.c0; replace KAc2 := KA.c1; replace KBc1 := KB.c0; replace KBc2 := KB.c1; replace KCc1 := KC.c0; replace KCc2 := KC.c1; replace KDc1 := KD.c0; replace KDc2 := KD.c1; replace KSc1 := KS.c0; replace KSc2 := KS.c1; replace KYc1 := KY.c0; replace KYc2 := KY.c1; have yo1 : World.cell? v7 ⟨v5.heap.size + 1, 0, none⟩ = some (.string f1) := KY.cell 0; have yo2 : World.cell? v7 ⟨v5.heap.size + 1, 1, none⟩ = some (.string f2) := KY.cell 1; have d0 := Nat.ne_of_lt K0.lt; have dz := Nat.ne_of_lt KZ.lt; have dO := Nat.ne_of_lt KO.lt; have dKA := Nat.ne_of_lt KA.lt; have dKB := Nat.ne_of_lt KB.lt; have dKC := Nat.ne_of_lt KC.lt; have dKD := Nat.ne_of_lt KD.lt; have dKS := Nat.ne_of_lt KS.lt; have hlw := below_size HB; have hbX : Below v7.heap.size v7 (v7.alloc (.cells #[.string f1, .string f2] 25)) := below_alloc (Below.refl _ _) _; clear KY KYc1 KYc2; replace K0 := K0.below hbX; replace KZ := KZ.below hbX; replace KO := KO.below hbX; replace HO := OwnK.below HO hbX; replace HB := below_step HB hbX; replace KA := KA.below hbX; replace KB := KB.below hbX; replace KC := KC.below hbX; replace KD := KD.below hbX; replace KS := KS.below hbX; replace pc0 := K0.c0; replace pc1 := K0.c1; replace pc2 := K0.c2; replace pc3 := K0.c3; replace pc4 := K0.c4; replace pc5 := K0.c5; replace pc6 := K0.c6; replace pc7 := K0.c7; replace pc16 := K0.c16; replace pc17 := K0.c17; replace KAc1 := KA.c0; replace KAc2 := KA.c1; replace KBc1 := KB.c0; replace KBc2 := KB.c1; replace KCc1 := KC.c0; replace KCc2 := KC.c1; replace KDc1 := KD.c0; replace KDc2 := KD.c1; replace KSc1 := KS.c0; replace KSc2 := KS.c1; clear hbX; have KY := Blk.new v7 #[.string f1, .string f2] 25; have KYc1 := KY.cell 0; have KYc2 := KY.cell 1) | (go_at_call 19; clear TK8; refine (AD2 _ (hp.below HB)).mono ?_; rintro e v8 ⟨rfl, hb⟩; replace K0 := K0.below hb; replace KZ := KZ.below hb; replace KO := KO.below hb; replace HO := OwnK.below HO hb; replace HB := below_step HB hb; replace KA := KA.below hb; replace KB := KB.below hb; replace KC := KC.below hb; replace KD := KD.below hb; replace KS := KS.below hb; replace KY := KY.below hb; replace pc0 := K0.c0; replace pc1 := K0.c1; replace pc2 := K0.c2; replace pc3 := K0.c3; replace pc4 := K0.c4; replace pc5 := K0.c5; replace pc6 := K0.c6; replace pc7 := K0.c7; replace pc16 := K0.c16; replace pc17 := K0.c17; replace KAc1 := KA.c0; replace KAc2 := KA.c1; replace KBc1 := KB.c0; replace KBc2 := KB.c1; replace KCc1 := KC.c0; replace KCc2 := KC.c1; replace KDc1 := KD.c0; replace KDc2 := KD.c1; replace KSc1 := KS.c0; replace KSc2 := KS.c1; replace KYc1 := KY.c0; replace KYc2 := KY.c1; clear hb) | (go_at_call 70; clear TK9; refine (MU2 _).mono ?_; rintro e v9 ⟨rfl, hb⟩; replace K0 := K0.below hb; replace KZ := KZ.below hb; replace KO := KO.below hb; replace HO := OwnK.below HO hb; replace HB := below_step HB hb; replace KA := KA.below hb; replace KB := KB.below hb; replace KC := KC.below hb; replace KD := KD.below hb; replace KS := KS.below hb; replace KY := KY.below hb; replace pc0 := K0.c0; replace pc1 := K0.c1; replace pc2 := K0.c2; replace pc3 := K0.c3; replace pc4 := K0.c4; replace pc5 := K0.c5; replace pc6 := K0.c6; replace pc7 := K0.c7; replace pc16 := K0.c16; replace pc17 := K0.c17; replace KAc1 := KA.c0; replace KAc2 := KA.c1; replace KBc1 := KB.c0; replace KBc2 := KB.c1; replace KCc1 := KC.c0; replace KCc2 := KC.c1; replace KDc1 := KD.c0; replace KDc2 := KD.c1; replace KSc1 := KS.c0; replace KSc2 := KS.c1; replace KYc1 := KY.c0; replace KYc2 := KY.c1; clear hb; have fy1 := KY.frozen 0; have fy2 := KY.frozen 1))
 replace K0 := (K0.far (p := ⟨v7.heap.size, 0, none⟩) d0 (.string y1)).far (p := ⟨v7.heap.size, 1, none⟩) d0 (.string y2)
 replace KZ := (KZ.far (p := ⟨v7.heap.size, 0, none⟩) dz (.string y1)).far (p := ⟨v7.heap.size, 1, none⟩) dz (.string y2)
 replace HO := (OwnK.set HO KY (by decide) 0 (.string y1)).set (KY.set 0 _) (by decide) 1 (.string y2)
 replace KO := (KO.far (p := ⟨v7.heap.size, 0, none⟩) dO (.string y1)).far (p := ⟨v7.heap.size, 1, none⟩) dO (.string y2)
 replace KA := (KA.far (p := ⟨v7.heap.size, 0, none⟩) dKA (.string y1)).far (p := ⟨v7.heap.size, 1, none⟩) dKA (.string y2)
 replace KB := (KB.far (p := ⟨v7.heap.size, 0, none⟩) dKB (.string y1)).far (p := ⟨v7.heap.size, 1, none⟩) dKB (.string y2)
 replace KC := (KC.far (p := ⟨v7.heap.size, 0, none⟩) dKC (.string y1)).far (p := ⟨v7.heap.size, 1, none⟩) dKC (.string y2)
 replace KD := (KD.far (p := ⟨v7.heap.size, 0, none⟩) dKD (.string y1)).far (p := ⟨v7.heap.size, 1, none⟩) dKD (.string y2)
 replace KS := (KS.far (p := ⟨v7.heap.size, 0, none⟩) dKS (.string y1)).far (p := ⟨v7.heap.size, 1, none⟩) dKS (.string y2)
 replace HB := below_set (j := 1) (v := .string y2) (below_set (j := 0) (v := .string y1) HB hlw) hlw
 replace KY := (KY.set 0 (.string y1)).set 1 (.string y2)
 have m_KY2 : w.heap.size + 2 ≠ v7.heap.size := dO
 clear KYc1 KYc2 KSc1 KSc2 yo1 yo2
 have KYc1 := KY.cell 0
 have KYc2 := KY.cell 1
 replace pc0 := K0.c0
 replace pc1 := K0.c1
 replace pc2 := K0.c2
 replace pc3 := K0.c3
 replace pc4 := K0.c4
 replace pc5 := K0.c5
 replace pc6 := K0.c6
 replace pc7 := K0.c7
 replace pc16 := K0.c16
 replace pc17 := K0.c17
 replace KAc1 := KA.c0
 replace KAc2 := KA.c1
 replace KBc1 := KB.c0
 replace KBc2 := KB.c1
 replace KCc1 := KC.c0
 replace KCc2 := KC.c1
 replace KDc1 := KD.c0
 replace KDc2 := KD.c1
 rw [rounds_succ]
 go_wp2_with (first | (go_at_call 72; clear TK10; refine (LS2 _ (hp.below HB)).mono ?_; rintro e v10 ⟨rfl, hb⟩; replace K0 := K0.below hb; replace KZ := KZ.below hb; replace KO := KO.below hb; replace HO := OwnK.below HO hb; replace HB := below_step HB hb; replace KA := KA.below hb; replace KB := KB.below hb; replace KC := KC.below hb; replace KD := KD.below hb; replace pc0 := K0.c0; replace pc1 := K0.c1; replace pc2 := K0.c2; replace pc3 := K0.c3; replace pc4 := K0.c4; replace pc5 := K0.c5; replace pc6 := K0.c6; replace pc7 := K0.c7; replace pc16 := K0.c16; replace pc17 := K0.c17; replace KAc1 := KA.c0; replace KAc2 := KA.c1; replace KBc1 := KB.c0; replace KBc2 := KB.c1; replace KCc1 := KC.c0; replace KCc2 := KC.c1; replace KDc1 := KD.c0; replace KDc2 := KD.c1; clear hb) | (go_at_call 76; clear TK11; refine (P4 _ _ [Q1, Q2, Q3] KO KZ HO HB (by simp)).mono ?_; rintro e v11 ⟨vs, rfl, KO2, HO2, HB2, ST⟩; obtain ⟨XA, xc, ex⟩ := Kd.R_slice HO2; subst ex; obtain ⟨o0, o1⟩ := KO2.one; replace K0 := ST.blk K0 (by omega) (OwnK.not_blk HO K0 (by decide)); replace KZ := ST.blk KZ (by omega) (OwnK.not_blk HO KZ (by decide)); replace KA := ST.blk KA ((Ne.symm m0)) (OwnK.not_blk HO KA (by decide)); replace KB := ST.blk KB ((Ne.symm m1)) (OwnK.not_blk HO KB (by decide)); replace KC := ST.blk KC ((Ne.symm m2)) (OwnK.not_blk HO KC (by decide)); replace KD := ST.blk KD ((Ne.symm m3)) (OwnK.not_blk HO KD (by decide)); replace KO := KO2; replace HO := HO2; replace HB := HB2; clear KO2 HO2 HB2; replace pc0 := K0.c0; replace pc1 := K0.c1; replace pc2 := K0.c2; replace pc3 := K0.c3; replace pc4 := K0.c4; replace pc5 := K0.c5; replace pc6 := K0.c6; replace pc7 := K0.c7; replace pc16 := K0.c16; replace pc17 := K0.c17; replace KAc1 := KA.c0; replace KAc2 := KA.c1; replace KBc1 := KB.c0; replace KBc2 := KB.c1; replace KCc1 := KC.c0; replace KCc2 := KC.c1; replace KDc1 := KD.c0; replace KDc2 := KD.c1))
 have HE := OwnK.set HO KO (by decide) 0 (.slice XA 4 xc)
 have c0 : World.cell? (v11.setCell ⟨w.heap.size + 1 + 1, 0, none⟩ (.slice XA 4 xc)) ⟨w.heap.size + 1 + 1, 0, none⟩ = some (.slice XA 4 xc) := (KO.set 0 (.slice XA 4 xc)).cell 0
 refine bodyPost_ret (v := .slice XA 4 xc) ?_ rfl ⟨_, _, rfl, HE, below_set HB (by omega)⟩
 simp [results, Tryz.results29, go_sem, c0]
end Go.Proofs.YtociicfjhgfgpaaGreatDoor

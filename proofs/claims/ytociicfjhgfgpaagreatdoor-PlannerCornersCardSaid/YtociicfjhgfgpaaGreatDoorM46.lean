/- the law's own: ratio, pick: the walks. SamePasses of two equal lists: the walk. -/
import Derived.Test.YtociicfjhgfgpaaGreatDoorM43
import Derived.Test.YtociicfjhgfgpaaGreatDoorM45
set_option linter.unusedVariables false
set_option linter.unusedSimpArgs false
namespace Go.Proofs.YtociicfjhgfgpaaGreatDoor
open Go.RowKit Go.Shelf Go.Lib Go.Proofs.YtociicfjhgfgpaaGreatDoorW.PrintWords
set_option maxHeartbeats 4000000 in
set_option maxRecDepth 100000 in
theorem lw_ratio (n d : Int) (w : World) (h1 : -1000000000 ≤ n) (h2 : n ≤ 1000000000) (h0 : 0 < d) (h3 : d ≤ 1000000000) :
  Calls Tryz.prog 8 #[.int .i64 n, .int .i64 d] w fun e w' => e = .returned (rv (mkRat n d.toNat)) ∧ Below w.heap.size w w' := by
 have OF := fun W => ref04_Of n d W h1 h2 h0 h3
 generalize mkRat n d.toNat = qq at *
 clear h1 h2 h0 h3
 unfold rv at *
 generalize itx qq.num = s1 at *
 generalize itx (qq.den : Int) = s2 at *
 have hB0 : Below w.heap.size w (w.alloc (.cells #[.string ⟨#[]⟩, .string ⟨#[]⟩] 25)) := below_alloc (Below.refl _ _) _
 have k0 := (Blk.new w #[.string ⟨#[]⟩, .string ⟨#[]⟩] 25)
 go_enter Tryz.func8, Tryz.ntmps8
 go_wp2_with (go_at_call 25; refine (OF _).mono ?_; clear OF; rintro e w2 ⟨rfl, hb2⟩; have hB2 := below_step hB0 hb2; have K0 := (k0.below hb2).alloc (.cells #[.string s1, .string s2] 25); obtain ⟨r0, r1, q0, q1⟩ := K0.two)
 refine bodyPost_ret (results_single rfl (.cell w.heap.size 25 #[.string s1, .string s2] (0, 0) _ rfl ((K0.set 0 _).set 1 _) Tryz.underlying25 rfl (by kernel_rfl) .nil)) rfl ?_
 exact ⟨rfl, below_set (below_set (below_alloc hB2 _) (Nat.le_refl _)) (Nat.le_refl _)⟩
def pickI (c n : Int) : Int := if c < 0 then (-(c + 1)) % n else c % n
theorem pickI_bound {c n : Int} (h : 0 < n) : 0 ≤ pickI c n ∧ pickI c n < n := by
 unfold pickI
 split
 ·exact ⟨Int.emod_nonneg _ (by omega), Int.emod_lt_of_pos _ h⟩
 ·exact ⟨Int.emod_nonneg _ (by omega), Int.emod_lt_of_pos _ h⟩
set_option maxHeartbeats 4000000 in
set_option maxRecDepth 100000 in
theorem lw_pick (c n : Int) (w : World) (hc : -9223372036854775808 ≤ c ∧ c ≤ 9223372036854775807) (hn : 0 < n) (hn2 : n ≤ 1000) :
  Calls Tryz.prog 9 #[.int .i64 c, .int .i64 n] w fun e w' => e = .returned (.int .i64 (pickI c n)) ∧ w' = w := by
 have hnz : (n = 0) = False := eq_false (by omega)
 have hnm : (n = -1) = False := eq_false (by omega)
 have hpb := pickI_bound (c := c) hn
 by_cases h : c < 0
 ·have d1 : decide (c < 0) = true := decide_eq_true h
  have e1 : wrap64 (c + 1) = c + 1 := by unfold wrap64; omega
  have e2 : wrap64 (-(c + 1)) = -(c + 1) := by unfold wrap64; omega
  have e3 : (-(c + 1)).tmod n = (-(c + 1)) % n := Int.tmod_eq_emod_of_nonneg (by omega)
  have e4 : wrap64 ((-(c + 1)) % n) = (-(c + 1)) % n := by unfold pickI at hpb; rw [if_pos h] at hpb; unfold wrap64; omega
  have hr : pickI c n = (-(c + 1)) % n := if_pos h
  rw [hr]
  clear hr hpb hc
  go_enter Tryz.func9, Tryz.ntmps9
  go_wp2
  go_ret
  exact ⟨rfl, rfl⟩
 ·have d1 : decide (c < 0) = false := decide_eq_false h
  have e3 : c.tmod n = c % n := Int.tmod_eq_emod_of_nonneg (by omega)
  have e4 : wrap64 (c % n) = c % n := by unfold pickI at hpb; rw [if_neg h] at hpb; unfold wrap64; omega
  have hr : pickI c n = c % n := if_neg h
  rw [hr]
  clear hr hpb hc
  go_enter Tryz.func9, Tryz.ntmps9
  go_wp2
  go_ret
  exact ⟨rfl, rfl⟩
def psv (x0 y0 x1 y1 z : Rat) : Value := .agg #[.string (itx x0.num), .string (itx (x0.den : Int)), .string (itx y0.num), .string (itx (y0.den : Int)), .string (itx x1.num), .string (itx (x1.den : Int)), .string (itx y1.num), .string (itx (y1.den : Int)), .string (itx z.num), .string (itx (z.den : Int))]
set_option maxHeartbeats 4000000 in
set_option maxRecDepth 100000 in
theorem lw_pass (x0 y0 x1 y1 : Int) (w : World) (h : (-1000 ≤ x0 ∧ x0 ≤ 1000) ∧ (-1000 ≤ y0 ∧ y0 ≤ 1000) ∧ (-1000 ≤ x1 ∧ x1 ≤ 1000) ∧ (-1000 ≤ y1 ∧ y1 ≤ 1000)) :
  Calls Tryz.prog 24 #[.int .i64 x0, .int .i64 y0, .int .i64 x1, .int .i64 y1] w fun e w' => e = .returned (psv (mkRat x0 1) (mkRat y0 1) (mkRat x1 1) (mkRat y1 1) (mkRat 1 1)) ∧ Below w.heap.size w w' := by
 have R1 := fun W => lw_ratio x0 1 W (by omega) (by omega) (by decide) (by decide)
 have R2 := fun W => lw_ratio y0 1 W (by omega) (by omega) (by decide) (by decide)
 have R3 := fun W => lw_ratio x1 1 W (by omega) (by omega) (by decide) (by decide)
 have R4 := fun W => lw_ratio y1 1 W (by omega) (by omega) (by decide) (by decide)
 have R5 := fun W => lw_ratio 1 1 W (by decide) (by decide) (by decide) (by decide)
 rw [show (1 : Int).toNat = 1 from rfl] at R1 R2 R3 R4 R5
 generalize mkRat x0 1 = u0 at *
 generalize mkRat y0 1 = u1 at *
 generalize mkRat x1 1 = u2 at *
 generalize mkRat y1 1 = u3 at *
 generalize mkRat 1 1 = u4 at *
 unfold rv psv at *
 generalize itx u0.num = a1 at *
 generalize itx (u0.den : Int) = a2 at *
 generalize itx u1.num = b1 at *
 generalize itx (u1.den : Int) = b2 at *
 generalize itx u2.num = c1 at *
 generalize itx (u2.den : Int) = c2 at *
 generalize itx u3.num = d1 at *
 generalize itx (u3.den : Int) = d2 at *
 generalize itx u4.num = e1 at *
 generalize itx (u4.den : Int) = e2 at *
 have hB0 : Below w.heap.size w (w.alloc (.cells #[.string ⟨#[]⟩, .string ⟨#[]⟩, .string ⟨#[]⟩, .string ⟨#[]⟩, .string ⟨#[]⟩, .string ⟨#[]⟩, .string ⟨#[]⟩, .string ⟨#[]⟩, .string ⟨#[]⟩, .string ⟨#[]⟩] 61)) := below_alloc (Below.refl _ _) _
 have k0 := (Blk.new w #[.string ⟨#[]⟩, .string ⟨#[]⟩, .string ⟨#[]⟩, .string ⟨#[]⟩, .string ⟨#[]⟩, .string ⟨#[]⟩, .string ⟨#[]⟩, .string ⟨#[]⟩, .string ⟨#[]⟩, .string ⟨#[]⟩] 61)
 clear h
 have T1 : True := trivial
 have T2 : True := trivial
 have T3 : True := trivial
 have T4 : True := trivial
 go_enter Tryz.func24, Tryz.ntmps24
 go_wp2_with (first | (go_at_call 8; clear T1; refine (R1 _).mono ?_; rintro e w1 ⟨rfl, hb1⟩; have hB1 := below_step hB0 hb1) | (go_at_call 8; clear T2; refine (R2 _).mono ?_; rintro e w2 ⟨rfl, hb2⟩; have hB2 := below_step hB1 hb2) | (go_at_call 8; clear T3; refine (R3 _).mono ?_; rintro e w3 ⟨rfl, hb3⟩; have hB3 := below_step hB2 hb3) | (go_at_call 8; clear T4; refine (R4 _).mono ?_; rintro e w4 ⟨rfl, hb4⟩; have hB4 := below_step hB3 hb4) | (go_at_call 8; refine (R5 _).mono ?_; rintro e w5 ⟨rfl, hb5⟩; have hB5 := below_step hB4 hb5; have K5 := ((((k0.below hb1).below hb2).below hb3).below hb4).below hb5) | (refine wpList_store_row rfl 61 (.tmp 8) (.tmp 18) rfl w.heap.size #[.string a1, .string a2, .string b1, .string b2, .string c1, .string c2, .string d1, .string d2, .string e1, .string e2] rfl rfl 61 #[.string ⟨#[]⟩, .string ⟨#[]⟩, .string ⟨#[]⟩, .string ⟨#[]⟩, .string ⟨#[]⟩, .string ⟨#[]⟩, .string ⟨#[]⟩, .string ⟨#[]⟩, .string ⟨#[]⟩, .string ⟨#[]⟩] K5 (by kernel_rfl) rfl (by simp [Value.oneCell']) ?_))
 refine bodyPost_ret (results_single rfl (.cell w.heap.size 61 #[.string a1, .string a2, .string b1, .string b2, .string c1, .string c2, .string d1, .string d2, .string e1, .string e2] (0, 0) _ rfl (K5.row #[.string a1, .string a2, .string b1, .string b2, .string c1, .string c2, .string d1, .string d2, .string e1, .string e2]) Tryz.underlying61 rfl (by kernel_rfl) .nil)) rfl ?_
 exact ⟨rfl, below_row hB5 (Nat.le_refl _) #[.string a1, .string a2, .string b1, .string b2, .string c1, .string c2, .string d1, .string d2, .string e1, .string e2]⟩
def cX (x : Int) : Int := pickI x 41 - 20
def cW (x wd : Int) : Int := pickI x 41 - 20 + 1 + pickI wd 32
def cR (rr : Int) : Int := 1 + pickI rr 10
def i64 (c : Int) : Prop := -9223372036854775808 ≤ c ∧ c ≤ 9223372036854775807
theorem wrapK {a : Int} (h : wrap64 a = a) : IntKind.i64.wrap a = a := by
 rw [IntKind.wrap_i64]
 unfold wrap64 at h
 exact h
theorem wrap_small {a : Int} (h : -1000 ≤ a ∧ a ≤ 1000) : wrap64 a = a := by unfold wrap64; omega
set_option maxHeartbeats 16000000 in
set_option maxRecDepth 100000 in
theorem lw_corners (x y wd dp rr : Int) (w : World) (hx : i64 x) (hy : i64 y) (hw : i64 wd) (hd : i64 dp) (hr : i64 rr) :
  Calls Tryz.prog 7 #[.agg #[.int .i64 x, .int .i64 y, .int .i64 wd, .int .i64 dp, .int .i64 rr]] w fun e w' => e = .returned (.tuple #[rcv (mkRat (cX x) 4) (mkRat (cX y) 4) (mkRat (cW x wd) 4) (mkRat (cW y dp) 4), rv (mkRat (cR rr) 4)]) ∧ Below w.heap.size w w' := by
 have PX := fun W => lw_pick x 41 W hx (by decide) (by decide)
 have PY := fun W => lw_pick y 41 W hy (by decide) (by decide)
 have PW := fun W => lw_pick wd 32 W hw (by decide) (by decide)
 have PD := fun W => lw_pick dp 32 W hd (by decide) (by decide)
 have PR := fun W => lw_pick rr 10 W hr (by decide) (by decide)
 have bx := pickI_bound (c := x) (n := 41) (by decide)
 have by' := pickI_bound (c := y) (n := 41) (by decide)
 have bw := pickI_bound (c := wd) (n := 32) (by decide)
 have bd := pickI_bound (c := dp) (n := 32) (by decide)
 have br := pickI_bound (c := rr) (n := 10) (by decide)
 unfold cX cW cR
 generalize pickI x 41 = px at *
 generalize pickI y 41 = py at *
 generalize pickI wd 32 = pw at *
 generalize pickI dp 32 = pd at *
 generalize pickI rr 10 = pr at *
 have R1 := fun W => lw_ratio (px - 20) 4 W (by omega) (by omega) (by decide) (by decide)
 have R2 := fun W => lw_ratio (py - 20) 4 W (by omega) (by omega) (by decide) (by decide)
 have R3 := fun W => lw_ratio (px - 20 + 1 + pw) 4 W (by omega) (by omega) (by decide) (by decide)
 have R4 := fun W => lw_ratio (py - 20 + 1 + pd) 4 W (by omega) (by omega) (by decide) (by decide)
 have R5 := fun W => lw_ratio (1 + pr) 4 W (by omega) (by omega) (by decide) (by decide)
 rw [show (4 : Int).toNat = 4 from rfl] at R1 R2 R3 R4 R5
 generalize mkRat (px - 20) 4 = u0 at *
 generalize mkRat (py - 20) 4 = u1 at *
 generalize mkRat (px - 20 + 1 + pw) 4 = u2 at *
 generalize mkRat (py - 20 + 1 + pd) 4 = u3 at *
 generalize mkRat (1 + pr) 4 = u4 at *
 unfold rv rcv at *
 generalize itx u0.num = a1 at *
 generalize itx (u0.den : Int) = a2 at *
 generalize itx u1.num = b1 at *
 generalize itx (u1.den : Int) = b2 at *
 generalize itx u2.num = c1 at *
 generalize itx (u2.den : Int) = c2 at *
 generalize itx u3.num = d1 at *
 generalize itx (u3.den : Int) = d2 at *
 generalize itx u4.num = e1 at *
 generalize itx (u4.den : Int) = e2 at *
 have hB0 : Below w.heap.size w (((w.alloc (.cells #[.int .i64 x, .int .i64 y, .int .i64 wd, .int .i64 dp, .int .i64 rr] 23)).alloc (.cells #[.string ⟨#[]⟩, .string ⟨#[]⟩, .string ⟨#[]⟩, .string ⟨#[]⟩, .string ⟨#[]⟩, .string ⟨#[]⟩, .string ⟨#[]⟩, .string ⟨#[]⟩] 28)).alloc (.cells #[.string ⟨#[]⟩, .string ⟨#[]⟩] 25)) := below_alloc (below_alloc (below_alloc (Below.refl _ _) _) _) _
 have k0 := (((Blk.new w #[.int .i64 x, .int .i64 y, .int .i64 wd, .int .i64 dp, .int .i64 rr] 23).alloc (.cells #[.string ⟨#[]⟩, .string ⟨#[]⟩, .string ⟨#[]⟩, .string ⟨#[]⟩, .string ⟨#[]⟩, .string ⟨#[]⟩, .string ⟨#[]⟩, .string ⟨#[]⟩] 28)).alloc (.cells #[.string ⟨#[]⟩, .string ⟨#[]⟩] 25))
 have k1 : Blk (((w.alloc (.cells #[.int .i64 x, .int .i64 y, .int .i64 wd, .int .i64 dp, .int .i64 rr] 23)).alloc (.cells #[.string ⟨#[]⟩, .string ⟨#[]⟩, .string ⟨#[]⟩, .string ⟨#[]⟩, .string ⟨#[]⟩, .string ⟨#[]⟩, .string ⟨#[]⟩, .string ⟨#[]⟩] 28)).alloc (.cells #[.string ⟨#[]⟩, .string ⟨#[]⟩] 25)) (w.heap.size + 1) #[.string ⟨#[]⟩, .string ⟨#[]⟩, .string ⟨#[]⟩, .string ⟨#[]⟩, .string ⟨#[]⟩, .string ⟨#[]⟩, .string ⟨#[]⟩, .string ⟨#[]⟩] 28 := by
  have := ((Blk.new (w.alloc (.cells #[.int .i64 x, .int .i64 y, .int .i64 wd, .int .i64 dp, .int .i64 rr] 23)) #[.string ⟨#[]⟩, .string ⟨#[]⟩, .string ⟨#[]⟩, .string ⟨#[]⟩, .string ⟨#[]⟩, .string ⟨#[]⟩, .string ⟨#[]⟩, .string ⟨#[]⟩] 28).alloc (.cells #[.string ⟨#[]⟩, .string ⟨#[]⟩] 25))
  rwa [World.size_alloc] at this
 have k2 : Blk (((w.alloc (.cells #[.int .i64 x, .int .i64 y, .int .i64 wd, .int .i64 dp, .int .i64 rr] 23)).alloc (.cells #[.string ⟨#[]⟩, .string ⟨#[]⟩, .string ⟨#[]⟩, .string ⟨#[]⟩, .string ⟨#[]⟩, .string ⟨#[]⟩, .string ⟨#[]⟩, .string ⟨#[]⟩] 28)).alloc (.cells #[.string ⟨#[]⟩, .string ⟨#[]⟩] 25)) (w.heap.size + 2) #[.string ⟨#[]⟩, .string ⟨#[]⟩] 25 := by
  have := (Blk.new ((w.alloc (.cells #[.int .i64 x, .int .i64 y, .int .i64 wd, .int .i64 dp, .int .i64 rr] 23)).alloc (.cells #[.string ⟨#[]⟩, .string ⟨#[]⟩, .string ⟨#[]⟩, .string ⟨#[]⟩, .string ⟨#[]⟩, .string ⟨#[]⟩, .string ⟨#[]⟩, .string ⟨#[]⟩] 28)) #[.string ⟨#[]⟩, .string ⟨#[]⟩] 25)
  rwa [World.size_alloc, World.size_alloc] at this
 have j1 : wrap64 (px - 20) = px - 20 := wrap_small (by omega)
 have j2 : wrap64 (py - 20) = py - 20 := wrap_small (by omega)
 have j3 : wrap64 (px - 20 + 1) = px - 20 + 1 := wrap_small (by omega)
 have j4 : wrap64 (py - 20 + 1) = py - 20 + 1 := wrap_small (by omega)
 have j5 : wrap64 (px - 20 + 1 + pw) = px - 20 + 1 + pw := wrap_small (by omega)
 have j6 : wrap64 (py - 20 + 1 + pd) = py - 20 + 1 + pd := wrap_small (by omega)
 have j7 : wrap64 (1 + pr) = 1 + pr := wrap_small (by omega)
 have i3 : IntKind.i64.wrap (px - 20 + 1) = px - 20 + 1 := wrapK j3
 have i4 : IntKind.i64.wrap (py - 20 + 1) = py - 20 + 1 := wrapK j4
 have i5 : IntKind.i64.wrap (px - 20 + 1 + pw) = px - 20 + 1 + pw := wrapK j5
 have i6 : IntKind.i64.wrap (py - 20 + 1 + pd) = py - 20 + 1 + pd := wrapK j6
 have i7 : IntKind.i64.wrap (1 + pr) = 1 + pr := wrapK j7
 clear bx by' bw bd br hx hy hw hd hr
 have T1 : True := trivial
 go_enter Tryz.func7, Tryz.ntmps7
 go_wp2_with (first | (go_at_call 9; clear T1; refine (PX _).mono ?_; rintro e w1 ⟨rfl, rfl⟩) | (go_at_call 9; refine (PY _).mono ?_; rintro e w2 ⟨rfl, rfl⟩))
 have S0 := k0.drew
 have S1 := k1.drew
 have S2 := k2.drew
 have hB1 := below_drew hB0
 generalize (((w.alloc (.cells #[.int .i64 x, .int .i64 y, .int .i64 wd, .int .i64 dp, .int .i64 rr] 23)).alloc (.cells #[.string ⟨#[]⟩, .string ⟨#[]⟩, .string ⟨#[]⟩, .string ⟨#[]⟩, .string ⟨#[]⟩, .string ⟨#[]⟩, .string ⟨#[]⟩, .string ⟨#[]⟩] 28)).alloc (.cells #[.string ⟨#[]⟩, .string ⟨#[]⟩] 25)) = w3 at *
 clear hB0 k0 k1 k2 PX PY
 refine wp_region_U (fun i => i == 24 || i == 25) (fun W => Below w3.drew.heap.size w3.drew W) (by kernel_rfl) (closed_below _) (Below.refl _ _) ?_
 apply wpU_tk 0 (some 14)
 ·intro W hW
  go_simp
  try rfl
 apply wpU_act
 apply Exists.intro
 refine ⟨?_, ?_⟩
 ·go_simp
  try rfl
 apply wpU_tk 2 (some 16)
 ·intro W hW
  go_simp
  try rfl
 apply wpU_act
 apply Exists.intro
 refine ⟨?_, ?_⟩
 ·go_simp
  try rfl
 apply wpU_tk 4 (some 18)
 ·intro W hW
  go_simp
  try rfl
 apply wpU_act
 apply Exists.intro
 refine ⟨?_, ?_⟩
 ·go_simp
  try rfl
 apply wpU_tk 5 (some 19)
 ·intro W hW
  go_simp
  try rfl
 apply wpU_act
 apply Exists.intro
 refine ⟨?_, ?_⟩
 ·go_simp
  try rfl
 apply wpU_tk 6 (some 20)
 ·intro W hW
  go_simp
  try rfl
 apply wpU_act
 apply Exists.intro
 refine ⟨?_, ?_⟩
 ·go_simp
  try rfl
 apply wpU_tk 7 (some 21)
 ·intro W hW
  have e2 := (S0.below hW).cell 2
  go_simp
  try rfl
 apply wpU_act
 apply Exists.intro
 refine ⟨?_, ?_⟩
 ·go_simp
  try rfl
 apply wpU_tk 11 (some 25)
 ·intro W hW
  go_simp
  try rfl
 apply wpU_act
 apply Exists.intro
 refine ⟨?_, ?_⟩
 ·go_simp
  try rfl
 apply wpU_tk 12 (some 26)
 ·intro W hW
  go_simp
  try rfl
 apply wpU_act
 apply Exists.intro
 refine ⟨?_, ?_⟩
 ·go_simp
  try rfl
 apply wpU_tk 13 (some 27)
 ·intro W hW
  go_simp
  try rfl
 apply wpU_act
 apply Exists.intro
 refine ⟨?_, ?_⟩
 ·go_simp
  try rfl
 apply wpU_tk 14 (some 28)
 ·intro W hW
  have e3 := (S0.below hW).cell 3
  go_simp
  try rfl
 apply wpU_act
 apply Exists.intro
 refine ⟨?_, ?_⟩
 ·go_simp
  try rfl
 apply wpU_tk 19 (some 33)
 ·intro W hW
  go_simp
  try rfl
 apply wpU_act
 apply Exists.intro
 refine ⟨?_, ?_⟩
 ·go_simp
  try rfl
 apply wpU_tk 20 (some 34)
 ·intro W hW
  have e4 := (S0.below hW).cell 4
  go_simp
  try rfl
 apply wpU_act
 apply Exists.intro
 refine ⟨?_, ?_⟩
 ·go_simp
  try rfl
 refine wpU_call (.agg #[.string a1, .string a2]) (i := 1) (d := some 15) rfl rfl (by kernel_rfl) (by kernel_rfl) (by kernel_rfl) (by kernel_rfl) (by rfl) ⟨8, #[.int .i64 (px - 20), .int .i64 4], fun W hW => ?_, fun W hW => R1 W⟩ ?_
 ·rw [ucall_run rfl rfl (enters_of Tryz.func8 (by kernel_rfl) rfl) W]
  go_simp
 apply wpU_act
 apply Exists.intro
 refine ⟨?_, ?_⟩
 ·go_simp
  try rfl
 refine wpU_call (.agg #[.string b1, .string b2]) (i := 3) (d := some 17) rfl rfl (by kernel_rfl) (by kernel_rfl) (by kernel_rfl) (by kernel_rfl) (by rfl) ⟨8, #[.int .i64 (py - 20), .int .i64 4], fun W hW => ?_, fun W hW => R2 W⟩ ?_
 ·rw [ucall_run rfl rfl (enters_of Tryz.func8 (by kernel_rfl) rfl) W]
  go_simp
 apply wpU_act
 apply Exists.intro
 refine ⟨?_, ?_⟩
 ·go_simp
  try rfl
 refine wpU_call (.int .i64 pw) (i := 8) (d := some 22) rfl rfl (by kernel_rfl) (by kernel_rfl) (by kernel_rfl) (by kernel_rfl) (by rfl) ⟨9, #[.int .i64 wd, .int .i64 32], fun W hW => ?_, fun W hW => (PW W).mono (fun e w' h => ⟨h.1, by rw [h.2]; exact Below.refl _ _⟩)⟩ ?_
 ·rw [ucall_run rfl rfl (enters_of Tryz.func9 (by kernel_rfl) rfl) W]
  go_simp
 apply wpU_act
 apply Exists.intro
 refine ⟨?_, ?_⟩
 ·go_simp
  try rfl
 apply wpU_tk 9 (some 23)
 ·intro W hW
  go_simp
  try rfl
 apply wpU_act
 apply Exists.intro
 refine ⟨?_, ?_⟩
 ·go_simp
  try rfl
 refine wpU_call (.agg #[.string c1, .string c2]) (i := 10) (d := some 24) rfl rfl (by kernel_rfl) (by kernel_rfl) (by kernel_rfl) (by kernel_rfl) (by rfl) ⟨8, #[.int .i64 (px - 20 + 1 + pw), .int .i64 4], fun W hW => ?_, fun W hW => R3 W⟩ ?_
 ·rw [ucall_run rfl rfl (enters_of Tryz.func8 (by kernel_rfl) rfl) W]
  go_simp
 apply wpU_act
 apply Exists.intro
 refine ⟨?_, ?_⟩
 ·go_simp
  try rfl
 refine wpU_call (.int .i64 pd) (i := 15) (d := some 29) rfl rfl (by kernel_rfl) (by kernel_rfl) (by kernel_rfl) (by kernel_rfl) (by rfl) ⟨9, #[.int .i64 dp, .int .i64 32], fun W hW => ?_, fun W hW => (PD W).mono (fun e w' h => ⟨h.1, by rw [h.2]; exact Below.refl _ _⟩)⟩ ?_
 ·rw [ucall_run rfl rfl (enters_of Tryz.func9 (by kernel_rfl) rfl) W]
  go_simp
 apply wpU_act
 apply Exists.intro
 refine ⟨?_, ?_⟩
 ·go_simp
  try rfl
 apply wpU_tk 16 (some 30)
 ·intro W hW
  go_simp
  try rfl
 apply wpU_act
 apply Exists.intro
 refine ⟨?_, ?_⟩
 ·go_simp
  try rfl
 refine wpU_call (.agg #[.string d1, .string d2]) (i := 17) (d := some 31) rfl rfl (by kernel_rfl) (by kernel_rfl) (by kernel_rfl) (by kernel_rfl) (by rfl) ⟨8, #[.int .i64 (py - 20 + 1 + pd), .int .i64 4], fun W hW => ?_, fun W hW => R4 W⟩ ?_
 ·rw [ucall_run rfl rfl (enters_of Tryz.func8 (by kernel_rfl) rfl) W]
  go_simp
 apply wpU_act
 apply Exists.intro
 refine ⟨?_, ?_⟩
 ·go_simp
  try rfl
 apply wpU_tk 18 (some 32)
 ·intro W hW
  go_simp
  try rfl
 apply wpU_act
 apply Exists.intro
 refine ⟨?_, ?_⟩
 ·go_simp
  try rfl
 refine wpU_call (.int .i64 pr) (i := 21) (d := some 35) rfl rfl (by kernel_rfl) (by kernel_rfl) (by kernel_rfl) (by kernel_rfl) (by rfl) ⟨9, #[.int .i64 rr, .int .i64 10], fun W hW => ?_, fun W hW => (PR W).mono (fun e w' h => ⟨h.1, by rw [h.2]; exact Below.refl _ _⟩)⟩ ?_
 ·rw [ucall_run rfl rfl (enters_of Tryz.func9 (by kernel_rfl) rfl) W]
  go_simp
 apply wpU_act
 apply Exists.intro
 refine ⟨?_, ?_⟩
 ·go_simp
  try rfl
 apply wpU_tk 22 (some 36)
 ·intro W hW
  go_simp
  try rfl
 apply wpU_act
 apply Exists.intro
 refine ⟨?_, ?_⟩
 ·go_simp
  try rfl
 refine wpU_call (.agg #[.string e1, .string e2]) (i := 23) (d := some 37) rfl rfl (by kernel_rfl) (by kernel_rfl) (by kernel_rfl) (by kernel_rfl) (by rfl) ⟨8, #[.int .i64 (1 + pr), .int .i64 4], fun W hW => ?_, fun W hW => R5 W⟩ ?_
 ·rw [ucall_run rfl rfl (enters_of Tryz.func8 (by kernel_rfl) rfl) W]
  go_simp
 apply wpU_act
 apply Exists.intro
 refine ⟨?_, ?_⟩
 ·go_simp
  try rfl
 refine wpU_late (by kernel_rfl) (fun W1 hW1 => ?_)
 have L1 := S1.below hW1
 have L2 := (S2.below hW1).farR (show w.heap.size + 2 ≠ w.heap.size + 1 by omega) #[.string a1, .string a2, .string b1, .string b2, .string c1, .string c2, .string d1, .string d2]
 refine wpAny_step1 (i := 24) (by kernel_rfl) rfl (by rfl) (fun K hK => ?_)
 refine wp_store_row 28 (.tmp 2) (.tmp 32) rfl (w.heap.size + 1) #[.string a1, .string a2, .string b1, .string b2, .string c1, .string c2, .string d1, .string d2] rfl rfl 28 #[.string ⟨#[]⟩, .string ⟨#[]⟩, .string ⟨#[]⟩, .string ⟨#[]⟩, .string ⟨#[]⟩, .string ⟨#[]⟩, .string ⟨#[]⟩, .string ⟨#[]⟩] L1 (by kernel_rfl) rfl (by simp [Value.oneCell']) (hK _ _ ?_)
 clear hK K
 refine wpAny_last (i := 25) (by kernel_rfl) rfl (by kernel_rfl) (by rfl) (fun K hK => ?_)
 refine wp_store_row 25 (.tmp 3) (.tmp 37) rfl (w.heap.size + 2) #[.string e1, .string e2] rfl rfl 25 #[.string ⟨#[]⟩, .string ⟨#[]⟩] L2 (by kernel_rfl) rfl (by simp [Value.oneCell']) (hK _ _ ?_)
 clear hK K
 have M1 := (L1.row #[.string a1, .string a2, .string b1, .string b2, .string c1, .string c2, .string d1, .string d2]).farR (show w.heap.size + 1 ≠ w.heap.size + 2 by omega) #[.string e1, .string e2]
 have M2 := L2.row #[.string e1, .string e2]
 have hB9 := below_row (below_row (below_step hB1 hW1) (Nat.le_add_right _ 1) #[.string a1, .string a2, .string b1, .string b2, .string c1, .string c2, .string d1, .string d2]) (Nat.le_add_right _ 2) #[.string e1, .string e2]
 go_wp2
 refine bodyPost_ret (results_cc rfl _ _ (w.heap.size + 1) (w.heap.size + 2) 28 25 #[.string a1, .string a2, .string b1, .string b2, .string c1, .string c2, .string d1, .string d2] #[.string e1, .string e2] (0, 0) (0, 0) _ _ rfl M1 Tryz.underlying28 rfl (by kernel_rfl) rfl M2 Tryz.underlying25 rfl (by kernel_rfl)) rfl ?_
 exact ⟨rfl, hB9⟩
end Go.Proofs.YtociicfjhgfgpaaGreatDoor
namespace Go.Proofs.YtociicfjhgfgpaaGreatDoor
open Go.RowKit Go.Shelf Go.Lib Go.Proofs.YtociicfjhgfgpaaGreatDoorW.PrintWords
set_option maxHeartbeats 16000000 in
set_option maxRecDepth 100000 in
theorem lw_same (L : List Ps) (A B : Option Addr) (ca cb : Nat) (w : World) (hA : kPs.C w A L.length L) (hB : kPs.C w B L.length L) (hl : L.length ≤ 100) :
  Calls Tryz.prog 13 #[.slice A L.length ca, .slice B L.length cb] w fun e w' => e = .returned (.bool true) ∧ Below w.heap.size w w' := by
 go_enter Tryz.func13, Tryz.ntmps13
 go_wp2
 go_loopg [5] L.length (fun m v5 w' => ∃ i : Nat, v5 = .int .i64 i ∧ i + m = L.length ∧ Below w.heap.size w w')
 case atStart => exact ⟨0, rfl, Nat.zero_add _, Below.refl _ _⟩
 obtain ⟨i, rfl, hi, HB⟩ := hrel
 cases gk with
 | zero =>
  have hie : i = L.length := hi
  subst hie
  have hlt : decide ((L.length : Int) < (L.length : Int)) = false := decide_eq_false (Int.lt_irrefl _)
  go_wp2
  go_ret
  exact ⟨rfl, HB⟩
 | succ m =>
  have hin : i < L.length := by omega
  have him := Aside0.mk (show i + 1 + m = L.length by omega)
  have HW := Aside0.mk (show wrap64 ((i : Int) + 1) = ((i + 1 : Nat) : Int) from wrap_s hin (by omega))
  have hlt : ((i : Int) < (L.length : Int)) = True := eq_true (Int.ofNat_lt.2 hin)
  have hi0 : (0 ≤ (i : Int)) = True := eq_true (Int.natCast_nonneg i)
  obtain ⟨ad, rfl, hx0, hx1⟩ := flat_at hA (0, 0, 0, 0, 0) (i : Int) (Int.natCast_nonneg i) (Int.ofNat_lt.2 hin)
  obtain ⟨ae, rfl, hy0, hy1⟩ := flat_at hB (0, 0, 0, 0, 0) (i : Int) (Int.natCast_nonneg i) (Int.ofNat_lt.2 hin)
  rw [Int.toNat_natCast] at hx0 hx1 hy0 hy1
  generalize L.getD i (0, 0, 0, 0, 0) = d at *
  have cc0 := pw_cell_below (below_drew HB) (hx0 _ rfl)
  have cc1 := pw_cell_below (below_drew HB) (hx1 1 _ (by decide) rfl)
  have cc2 := pw_cell_below (below_drew HB) (hx1 2 _ (by decide) rfl)
  have cc3 := pw_cell_below (below_drew HB) (hx1 3 _ (by decide) rfl)
  have cc4 := pw_cell_below (below_drew HB) (hx1 4 _ (by decide) rfl)
  have cc5 := pw_cell_below (below_drew HB) (hx1 5 _ (by decide) rfl)
  have cc6 := pw_cell_below (below_drew HB) (hx1 6 _ (by decide) rfl)
  have cc7 := pw_cell_below (below_drew HB) (hx1 7 _ (by decide) rfl)
  have cc8 := pw_cell_below (below_drew HB) (hx1 8 _ (by decide) rfl)
  have cc9 := pw_cell_below (below_drew HB) (hx1 9 _ (by decide) rfl)
  have dc0 := pw_cell_below (below_drew HB) (hy0 _ rfl)
  have dc1 := pw_cell_below (below_drew HB) (hy1 1 _ (by decide) rfl)
  have dc2 := pw_cell_below (below_drew HB) (hy1 2 _ (by decide) rfl)
  have dc3 := pw_cell_below (below_drew HB) (hy1 3 _ (by decide) rfl)
  have dc4 := pw_cell_below (below_drew HB) (hy1 4 _ (by decide) rfl)
  have dc5 := pw_cell_below (below_drew HB) (hy1 5 _ (by decide) rfl)
  have dc6 := pw_cell_below (below_drew HB) (hy1 6 _ (by decide) rfl)
  have dc7 := pw_cell_below (below_drew HB) (hy1 7 _ (by decide) rfl)
  have dc8 := pw_cell_below (below_drew HB) (hy1 8 _ (by decide) rfl)
  have dc9 := pw_cell_below (below_drew HB) (hy1 9 _ (by decide) rfl)
  clear hx0 hx1 hy0 hy1 hA hB
  generalize itx d.1.num = s0 at *
  generalize itx (d.1.den : Int) = s1 at *
  generalize itx d.2.1.num = s2 at *
  generalize itx (d.2.1.den : Int) = s3 at *
  generalize itx d.2.2.1.num = s4 at *
  generalize itx (d.2.2.1.den : Int) = s5 at *
  generalize itx d.2.2.2.1.num = s6 at *
  generalize itx (d.2.2.2.1.den : Int) = s7 at *
  generalize itx d.2.2.2.2.num = s8 at *
  generalize itx (d.2.2.2.2.den : Int) = s9 at *
  go_wp2
  refine wp_region_U (fun _ => false) (fun W => Below wr.drew.heap.size wr.drew W) (by kernel_rfl) (closed_below _) (Below.refl _ _) ?_
  apply wpU_tk 0 (some 17)
  ·intro W hW
   go_simp
   try rfl
  apply wpU_act
  apply Exists.intro
  refine ⟨?_, ?_⟩
  ·go_simp
   try rfl
  apply wpU_tk 1 (some 18)
  ·intro W hW
   go_simp
   try rfl
  apply wpU_act
  apply Exists.intro
  refine ⟨?_, ?_⟩
  ·go_simp
   try rfl
  apply wpU_tk 2 (some 19)
  ·intro W hW
   go_simp
   try rfl
  apply wpU_act
  apply Exists.intro
  refine ⟨?_, ?_⟩
  ·go_simp
   try rfl
  apply wpU_tk 3 (some 20)
  ·intro W hW
   have e0 := pw_cell_below hW cc0; have e1 := pw_cell_below hW cc1; have e2 := pw_cell_below hW cc2; have e3 := pw_cell_below hW cc3; have e4 := pw_cell_below hW cc4; have e5 := pw_cell_below hW cc5; have e6 := pw_cell_below hW cc6; have e7 := pw_cell_below hW cc7; have e8 := pw_cell_below hW cc8; have e9 := pw_cell_below hW cc9
   go_simp
   try rfl
  apply wpU_act
  apply Exists.intro
  refine ⟨?_, ?_⟩
  ·go_simp
   try rfl
  apply wpU_tk 4 (some 21)
  ·intro W hW
   go_simp
   try rfl
  apply wpU_act
  apply Exists.intro
  refine ⟨?_, ?_⟩
  ·go_simp
   try rfl
  apply wpU_tk 5 (some 22)
  ·intro W hW
   go_simp
   try rfl
  apply wpU_act
  apply Exists.intro
  refine ⟨?_, ?_⟩
  ·go_simp
   try rfl
  apply wpU_tk 6 (some 23)
  ·intro W hW
   go_simp
   try rfl
  apply wpU_act
  apply Exists.intro
  refine ⟨?_, ?_⟩
  ·go_simp
   try rfl
  apply wpU_tk 7 (some 24)
  ·intro W hW
   have e0 := pw_cell_below hW dc0; have e1 := pw_cell_below hW dc1; have e2 := pw_cell_below hW dc2; have e3 := pw_cell_below hW dc3; have e4 := pw_cell_below hW dc4; have e5 := pw_cell_below hW dc5; have e6 := pw_cell_below hW dc6; have e7 := pw_cell_below hW dc7; have e8 := pw_cell_below hW dc8; have e9 := pw_cell_below hW dc9
   go_simp
   try rfl
  apply wpU_act
  apply Exists.intro
  refine ⟨?_, ?_⟩
  ·go_simp
   try rfl
  apply wpU_tk 8 (some 25)
  ·intro W hW
   go_simp
   try rfl
  apply wpU_act
  apply Exists.intro
  refine ⟨?_, ?_⟩
  ·go_simp
   try rfl
  refine wpU_done (by kernel_rfl) (fun W1 hW1 => ?_) _
  go_simp
  go_wp2
  go_roundg m
  case measure => omega
  case rel => exact ⟨i + 1, (by first | rfl | exact congrArg _ HW.out), him.out, below_step (below_drew HB) hW1⟩
end Go.Proofs.YtociicfjhgfgpaaGreatDoor

/- the law's own: ratio, pick: the walks. SamePasses of two equal lists: the walk. mill: check, must, isHorizontal, isVertical, isValid, isPositive, Valid, where nothing fails: the walks. -/
import Derived.Test.YtociicfjhgfgpaaGreatDoorR36
import Derived.Test.YtociicfjhgfgpaaGreatDoorR39
import Derived.Test.YtociicfjhgfgpaaGreatDoorR34
set_option linter.unusedVariables false
set_option linter.unusedSimpArgs false
set_option maxHeartbeats 16000000
set_option maxRecDepth 100000
namespace Go.Proofs.YtociicfjhgfgpaaGreatDoor
open Go.RowKit Go.Shelf Go.Lib Go.Proofs.YtociicfjhgfgpaaGreatDoorW.PrintWords
theorem lw_ratio (n d : Int) (w : World) (h1 : -1000000000 ≤ n) (h2 : n ≤ 1000000000) (h0 : 0 < d) (h3 : d ≤ 1000000000) :
  Calls Tryz.prog 8 #[.int .i64 n, .int .i64 d] w fun e w' => e = .returned (rv (mkRat n d.toNat)) ∧ Below w.heap.size w w' := by
 have OF := fun W => ref04_Of n d W h1 h2 h0 h3
 generalize mkRat n d.toNat = qq at *
 clear h1 h2 h0 h3
 unfold rv at *
 generalize itx qq.num = s1 at *
 generalize itx (qq.den : Int) = s2 at *
 obtain ⟨hB0, k0⟩ := news1 w #[.string ⟨#[]⟩, .string ⟨#[]⟩] 25
 go_enter Tryz.func8, Tryz.ntmps8
 go_wp2_with (go_at_call 25; refine (OF _).mono ?_; clear OF; rintro e w2 ⟨rfl, hb2⟩; have hB2 := bZs hB0 hb2; have K0 := (k0.below hb2).alloc (.cells #[.string s1, .string s2] 25); obtain ⟨r0, r1, q0, q1⟩ := K0.two)
 refine bodyPost_ret (rZs rfl (.cell w.heap.size 25 #[.string s1, .string s2] (0, 0) _ rfl ((K0.set 0 _).set 1 _) Tryz.underlying25 rfl (by kernel_rfl) .nil)) rfl ?_
 exact ⟨rfl, bZe (bZe (bZa hB2 _) (Nat.le_refl _)) (Nat.le_refl _)⟩
def pickI (c n : Int) : Int := if c < 0 then (-(c + 1)) % n else c % n
theorem pickI_bound {c n : Int} (h : 0 < n) : 0 ≤ pickI c n ∧ pickI c n < n := by
 unfold pickI
 split
 ·exact ⟨Int.emod_nonneg _ (by omega), Int.emod_lt_of_pos _ h⟩
 ·exact ⟨Int.emod_nonneg _ (by omega), Int.emod_lt_of_pos _ h⟩
theorem lw_pick (c n : Int) (w : World) (hc : -9223372036854775808 ≤ c ∧ c ≤ 9223372036854775807) (hn : 0 < n) (hn2 : n ≤ 1000) :
  Calls Tryz.prog 9 #[.int .i64 c, .int .i64 n] w fun e w' => e = .returned (.int .i64 (pickI c n)) ∧ w' = w := by
 have hnz : (n = 0) = False := eq_false (by omega)
 have hnm : (n = -1) = False := eq_false (by omega)
 have hpb := pickI_bound (c := c) hn
 by_cases h : c < 0
 ·have d1 : decide (c < 0) = true := decide_eq_true h
  have e1 : wrap64 (c + 1) = c + 1 := by unfold wrap64; omega
  have e2 : wrap64 (-(c + 1)) = -(c + 1) := by unfold wrap64; omega
  have e3 : (-(c + 1)).tmod n = (-(c + 1)) % n := Int.tmod_eq_emod_of_nonneg (by omega)
  have e4 : wrap64 ((-(c + 1)) % n) = (-(c + 1)) % n := by unfold pickI at hpb; rw [if_pos h] at hpb; unfold wrap64; omega
  have hr : pickI c n = (-(c + 1)) % n := if_pos h
  rw [hr]
  clear hr hpb hc
  go_enter Tryz.func9, Tryz.ntmps9
  go_wp2
  go_ret
  exact ⟨rfl, rfl⟩
 ·have d1 : decide (c < 0) = false := decide_eq_false h
  have e3 : c.tmod n = c % n := Int.tmod_eq_emod_of_nonneg (by omega)
  have e4 : wrap64 (c % n) = c % n := by unfold pickI at hpb; rw [if_neg h] at hpb; unfold wrap64; omega
  have hr : pickI c n = c % n := if_neg h
  rw [hr]
  clear hr hpb hc
  go_enter Tryz.func9, Tryz.ntmps9
  go_wp2
  go_ret
  exact ⟨rfl, rfl⟩
def psv (x0 y0 x1 y1 z : Rat) : Value := .agg #[.string (itx x0.num), .string (itx (x0.den : Int)), .string (itx y0.num), .string (itx (y0.den : Int)), .string (itx x1.num), .string (itx (x1.den : Int)), .string (itx y1.num), .string (itx (y1.den : Int)), .string (itx z.num), .string (itx (z.den : Int))]
theorem lw_pass (x0 y0 x1 y1 : Int) (w : World) (h : (-1000 ≤ x0 ∧ x0 ≤ 1000) ∧ (-1000 ≤ y0 ∧ y0 ≤ 1000) ∧ (-1000 ≤ x1 ∧ x1 ≤ 1000) ∧ (-1000 ≤ y1 ∧ y1 ≤ 1000)) :
  Calls Tryz.prog 24 #[.int .i64 x0, .int .i64 y0, .int .i64 x1, .int .i64 y1] w fun e w' => e = .returned (psv (mkRat x0 1) (mkRat y0 1) (mkRat x1 1) (mkRat y1 1) (mkRat 1 1)) ∧ Below w.heap.size w w' := by
 have R1 := fun W => lw_ratio x0 1 W (by omega) (by omega) (by decide) (by decide)
 have R2 := fun W => lw_ratio y0 1 W (by omega) (by omega) (by decide) (by decide)
 have R3 := fun W => lw_ratio x1 1 W (by omega) (by omega) (by decide) (by decide)
 have R4 := fun W => lw_ratio y1 1 W (by omega) (by omega) (by decide) (by decide)
 have R5 := fun W => lw_ratio 1 1 W (by decide) (by decide) (by decide) (by decide)
 rw [show (1 : Int).toNat = 1 from rfl] at R1 R2 R3 R4 R5
 generalize mkRat x0 1 = u0 at *
 generalize mkRat y0 1 = u1 at *
 generalize mkRat x1 1 = u2 at *
 generalize mkRat y1 1 = u3 at *
 generalize mkRat 1 1 = u4 at *
 unfold rv psv at *
 generalize itx u0.num = a1 at *
 generalize itx (u0.den : Int) = a2 at *
 generalize itx u1.num = b1 at *
 generalize itx (u1.den : Int) = b2 at *
 generalize itx u2.num = c1 at *
 generalize itx (u2.den : Int) = c2 at *
 generalize itx u3.num = d1 at *
 generalize itx (u3.den : Int) = d2 at *
 generalize itx u4.num = e1 at *
 generalize itx (u4.den : Int) = e2 at *
 obtain ⟨hB0, k0⟩ := news1 w #[.string ⟨#[]⟩, .string ⟨#[]⟩, .string ⟨#[]⟩, .string ⟨#[]⟩, .string ⟨#[]⟩, .string ⟨#[]⟩, .string ⟨#[]⟩, .string ⟨#[]⟩, .string ⟨#[]⟩, .string ⟨#[]⟩] 61
 clear h
 have T1 : True := trivial
 have T2 : True := trivial
 have T3 : True := trivial
 have T4 : True := trivial
 go_enter Tryz.func24, Tryz.ntmps24
 go_wp2_with (first | (go_at_call 8; clear T1; refine (R1 _).mono ?_; rintro e w1 ⟨rfl, hb1⟩; have hB1 := bZs hB0 hb1) | (go_at_call 8; clear T2; refine (R2 _).mono ?_; rintro e w2 ⟨rfl, hb2⟩; have hB2 := bZs hB1 hb2) | (go_at_call 8; clear T3; refine (R3 _).mono ?_; rintro e w3 ⟨rfl, hb3⟩; have hB3 := bZs hB2 hb3) | (go_at_call 8; clear T4; refine (R4 _).mono ?_; rintro e w4 ⟨rfl, hb4⟩; have hB4 := bZs hB3 hb4) | (go_at_call 8; refine (R5 _).mono ?_; rintro e w5 ⟨rfl, hb5⟩; have hB5 := bZs hB4 hb5; have K5 := ((((k0.below hb1).below hb2).below hb3).below hb4).below hb5) | (refine wpList_store_row rfl 61 (.tmp 8) (.tmp 18) rfl w.heap.size #[.string a1, .string a2, .string b1, .string b2, .string c1, .string c2, .string d1, .string d2, .string e1, .string e2] rfl rfl 61 #[.string ⟨#[]⟩, .string ⟨#[]⟩, .string ⟨#[]⟩, .string ⟨#[]⟩, .string ⟨#[]⟩, .string ⟨#[]⟩, .string ⟨#[]⟩, .string ⟨#[]⟩, .string ⟨#[]⟩, .string ⟨#[]⟩] K5 (by kernel_rfl) rfl (by simp [Value.oneCell']) ?_))
 refine bodyPost_ret (rZs rfl (.cell w.heap.size 61 #[.string a1, .string a2, .string b1, .string b2, .string c1, .string c2, .string d1, .string d2, .string e1, .string e2] (0, 0) _ rfl (K5.row #[.string a1, .string a2, .string b1, .string b2, .string c1, .string c2, .string d1, .string d2, .string e1, .string e2]) Tryz.underlying61 rfl (by kernel_rfl) .nil)) rfl ?_
 exact ⟨rfl, below_row hB5 (Nat.le_refl _) #[.string a1, .string a2, .string b1, .string b2, .string c1, .string c2, .string d1, .string d2, .string e1, .string e2]⟩
def cX (x : Int) : Int := pickI x 41 - 20
def cW (x wd : Int) : Int := pickI x 41 - 20 + 1 + pickI wd 32
def cR (rr : Int) : Int := 1 + pickI rr 10
def i64 (c : Int) : Prop := -9223372036854775808 ≤ c ∧ c ≤ 9223372036854775807
theorem wrapK {a : Int} (h : wrap64 a = a) : IntKind.i64.wrap a = a := by
 rw [IntKind.wrap_i64]
 unfold wrap64 at h
 exact h
theorem wrap_small {a : Int} (h : -1000 ≤ a ∧ a ≤ 1000) : wrap64 a = a := by unfold wrap64; omega
theorem lw_corners (x y wd dp rr : Int) (w : World) (hx : i64 x) (hy : i64 y) (hw : i64 wd) (hd : i64 dp) (hr : i64 rr) :
  Calls Tryz.prog 7 #[.agg #[.int .i64 x, .int .i64 y, .int .i64 wd, .int .i64 dp, .int .i64 rr]] w fun e w' => e = .returned (.tuple #[rcv (mkRat (cX x) 4) (mkRat (cX y) 4) (mkRat (cW x wd) 4) (mkRat (cW y dp) 4), rv (mkRat (cR rr) 4)]) ∧ Below w.heap.size w w' := by
 have PX := fun W => lw_pick x 41 W hx (by decide) (by decide)
 have PY := fun W => lw_pick y 41 W hy (by decide) (by decide)
 have PW := fun W => lw_pick wd 32 W hw (by decide) (by decide)
 have PD := fun W => lw_pick dp 32 W hd (by decide) (by decide)
 have PR := fun W => lw_pick rr 10 W hr (by decide) (by decide)
 have bx := pickI_bound (c := x) (n := 41) (by decide)
 have by' := pickI_bound (c := y) (n := 41) (by decide)
 have bw := pickI_bound (c := wd) (n := 32) (by decide)
 have bd := pickI_bound (c := dp) (n := 32) (by decide)
 have br := pickI_bound (c := rr) (n := 10) (by decide)
 unfold cX cW cR
 generalize pickI x 41 = px at *
 generalize pickI y 41 = py at *
 generalize pickI wd 32 = pw at *
 generalize pickI dp 32 = pd at *
 generalize pickI rr 10 = pr at *
 have R1 := fun W => lw_ratio (px - 20) 4 W (by omega) (by omega) (by decide) (by decide)
 have R2 := fun W => lw_ratio (py - 20) 4 W (by omega) (by omega) (by decide) (by decide)
 have R3 := fun W => lw_ratio (px - 20 + 1 + pw) 4 W (by omega) (by omega) (by decide) (by decide)
 have R4 := fun W => lw_ratio (py - 20 + 1 + pd) 4 W (by omega) (by omega) (by decide) (by decide)
 have R5 := fun W => lw_ratio (1 + pr) 4 W (by omega) (by omega) (by decide) (by decide)
 rw [show (4 : Int).toNat = 4 from rfl] at R1 R2 R3 R4 R5
 generalize mkRat (px - 20) 4 = u0 at *
 generalize mkRat (py - 20) 4 = u1 at *
 generalize mkRat (px - 20 + 1 + pw) 4 = u2 at *
 generalize mkRat (py - 20 + 1 + pd) 4 = u3 at *
 generalize mkRat (1 + pr) 4 = u4 at *
 unfold rv rcv at *
 generalize itx u0.num = a1 at *
 generalize itx (u0.den : Int) = a2 at *
 generalize itx u1.num = b1 at *
 generalize itx (u1.den : Int) = b2 at *
 generalize itx u2.num = c1 at *
 generalize itx (u2.den : Int) = c2 at *
 generalize itx u3.num = d1 at *
 generalize itx (u3.den : Int) = d2 at *
 generalize itx u4.num = e1 at *
 generalize itx (u4.den : Int) = e2 at *
 obtain ⟨hB0, k0, k1, k2⟩ := news3 w #[.int .i64 x, .int .i64 y, .int .i64 wd, .int .i64 dp, .int .i64 rr] 23 #[.string ⟨#[]⟩, .string ⟨#[]⟩, .string ⟨#[]⟩, .string ⟨#[]⟩, .string ⟨#[]⟩, .string ⟨#[]⟩, .string ⟨#[]⟩, .string ⟨#[]⟩] 28 #[.string ⟨#[]⟩, .string ⟨#[]⟩] 25
 have j1 : wrap64 (px - 20) = px - 20 := wrap_small (by omega)
 have j2 : wrap64 (py - 20) = py - 20 := wrap_small (by omega)
 have j3 : wrap64 (px - 20 + 1) = px - 20 + 1 := wrap_small (by omega)
 have j4 : wrap64 (py - 20 + 1) = py - 20 + 1 := wrap_small (by omega)
 have j5 : wrap64 (px - 20 + 1 + pw) = px - 20 + 1 + pw := wrap_small (by omega)
 have j6 : wrap64 (py - 20 + 1 + pd) = py - 20 + 1 + pd := wrap_small (by omega)
 have j7 : wrap64 (1 + pr) = 1 + pr := wrap_small (by omega)
 have i3 : IntKind.i64.wrap (px - 20 + 1) = px - 20 + 1 := wrapK j3
 have i4 : IntKind.i64.wrap (py - 20 + 1) = py - 20 + 1 := wrapK j4
 have i5 : IntKind.i64.wrap (px - 20 + 1 + pw) = px - 20 + 1 + pw := wrapK j5
 have i6 : IntKind.i64.wrap (py - 20 + 1 + pd) = py - 20 + 1 + pd := wrapK j6
 have i7 : IntKind.i64.wrap (1 + pr) = 1 + pr := wrapK j7
 clear bx by' bw bd br hx hy hw hd hr
 have T1 : True := trivial
 go_enter Tryz.func7, Tryz.ntmps7
 go_wp2_with (first | (go_at_call 9; clear T1; refine (PX _).mono ?_; rintro e w1 ⟨rfl, rfl⟩) | (go_at_call 9; refine (PY _).mono ?_; rintro e w2 ⟨rfl, rfl⟩))
 have S0 := k0.drew
 have S1 := k1.drew
 have S2 := k2.drew
 have hB1 := bZd hB0
 generalize (((w.alloc (.cells #[.int .i64 x, .int .i64 y, .int .i64 wd, .int .i64 dp, .int .i64 rr] 23)).alloc (.cells #[.string ⟨#[]⟩, .string ⟨#[]⟩, .string ⟨#[]⟩, .string ⟨#[]⟩, .string ⟨#[]⟩, .string ⟨#[]⟩, .string ⟨#[]⟩, .string ⟨#[]⟩] 28)).alloc (.cells #[.string ⟨#[]⟩, .string ⟨#[]⟩] 25)) = w3 at *
 clear hB0 k0 k1 k2 PX PY
 refine rZu (fun i => i == 24 || i == 25) (fun W => Below w3.drew.heap.size w3.drew W) (by kernel_rfl) (cZb _) (Below.refl _ _) ?_
 apply wpU_e 0 14
 apply wpU_e 2 16
 apply wpU_e 4 18
 apply wpU_e 5 19
 apply wpU_e 6 20
 refine wpU_f 7 21 (h1 := by intro W hW; have e2 := (S0.below hW).cell 2; go_simp; try rfl) (h3 := ?_)
 apply wpU_e 11 25
 apply wpU_e 12 26
 apply wpU_e 13 27
 refine wpU_f 14 28 (h1 := by intro W hW; have e3 := (S0.below hW).cell 3; go_simp; try rfl) (h3 := ?_)
 apply wpU_e 19 33
 refine wpU_f 20 34 (h1 := by intro W hW; have e4 := (S0.below hW).cell 4; go_simp; try rfl) (h3 := ?_)
 refine wpU_ca 1 15 Tryz.func8 (fun W hW => R1 W) ?_
 refine wpU_ac ?_
 refine wpU_ca 3 17 Tryz.func8 (fun W hW => R2 W) ?_
 refine wpU_ac ?_
 refine wpU_ca (v := .int .i64 pw) (args := #[.int .i64 wd, .int .i64 32]) 8 22 Tryz.func9 (fun W hW => (PW W).mono (fun e w' h => ⟨h.1, by rw [h.2]; exact Below.refl _ _⟩)) ?_
 refine wpU_ac ?_
 apply wpU_e 9 23
 refine wpU_ca 10 24 Tryz.func8 (fun W hW => R3 W) ?_
 refine wpU_ac ?_
 refine wpU_ca (v := .int .i64 pd) (args := #[.int .i64 dp, .int .i64 32]) 15 29 Tryz.func9 (fun W hW => (PD W).mono (fun e w' h => ⟨h.1, by rw [h.2]; exact Below.refl _ _⟩)) ?_
 refine wpU_ac ?_
 apply wpU_e 16 30
 refine wpU_ca 17 31 Tryz.func8 (fun W hW => R4 W) ?_
 refine wpU_ac ?_
 apply wpU_e 18 32
 refine wpU_ca (v := .int .i64 pr) (args := #[.int .i64 rr, .int .i64 10]) 21 35 Tryz.func9 (fun W hW => (PR W).mono (fun e w' h => ⟨h.1, by rw [h.2]; exact Below.refl _ _⟩)) ?_
 refine wpU_ac ?_
 apply wpU_e 22 36
 refine wpU_ca 23 37 Tryz.func8 (fun W hW => R5 W) ?_
 refine wpU_ac ?_
 refine wpU_late (by kernel_rfl) (fun W1 hW1 => ?_)
 have L1 := S1.below hW1
 have L2 := (S2.below hW1).farR (show w.heap.size + 2 ≠ w.heap.size + 1 by omega) #[.string a1, .string a2, .string b1, .string b2, .string c1, .string c2, .string d1, .string d2]
 refine wpAny_step1 (i := 24) (by kernel_rfl) rfl (by rfl) (fun K hK => ?_)
 refine wp_store_row 28 (.tmp 2) (.tmp 32) rfl (w.heap.size + 1) #[.string a1, .string a2, .string b1, .string b2, .string c1, .string c2, .string d1, .string d2] rfl rfl 28 #[.string ⟨#[]⟩, .string ⟨#[]⟩, .string ⟨#[]⟩, .string ⟨#[]⟩, .string ⟨#[]⟩, .string ⟨#[]⟩, .string ⟨#[]⟩, .string ⟨#[]⟩] L1 (by kernel_rfl) rfl (by simp [Value.oneCell']) (hK _ _ ?_)
 clear hK K
 refine wpAny_last (i := 25) (by kernel_rfl) rfl (by kernel_rfl) (by rfl) (fun K hK => ?_)
 refine wp_store_row 25 (.tmp 3) (.tmp 37) rfl (w.heap.size + 2) #[.string e1, .string e2] rfl rfl 25 #[.string ⟨#[]⟩, .string ⟨#[]⟩] L2 (by kernel_rfl) rfl (by simp [Value.oneCell']) (hK _ _ ?_)
 clear hK K
 have M1 := (L1.row #[.string a1, .string a2, .string b1, .string b2, .string c1, .string c2, .string d1, .string d2]).farR (show w.heap.size + 1 ≠ w.heap.size + 2 by omega) #[.string e1, .string e2]
 have M2 := L2.row #[.string e1, .string e2]
 have hB9 := below_row (below_row (bZs hB1 hW1) (Nat.le_add_right _ 1) #[.string a1, .string a2, .string b1, .string b2, .string c1, .string c2, .string d1, .string d2]) (Nat.le_add_right _ 2) #[.string e1, .string e2]
 go_wp2
 refine bodyPost_ret (results_cc rfl _ _ (w.heap.size + 1) (w.heap.size + 2) 28 25 #[.string a1, .string a2, .string b1, .string b2, .string c1, .string c2, .string d1, .string d2] #[.string e1, .string e2] (0, 0) (0, 0) _ _ rfl M1 Tryz.underlying28 rfl (by kernel_rfl) rfl M2 Tryz.underlying25 rfl (by kernel_rfl)) rfl ?_
 exact ⟨rfl, hB9⟩
theorem lw_same (L : List Ps) (A B : Option Addr) (ca cb : Nat) (w : World) (hA : kPs.C w A L.length L) (hB : kPs.C w B L.length L) (hl : L.length ≤ 100) :
  Calls Tryz.prog 13 #[.slice A L.length ca, .slice B L.length cb] w fun e w' => e = .returned (.bool true) ∧ Below w.heap.size w w' := by
 go_enter Tryz.func13, Tryz.ntmps13
 go_wp2
 go_loopg [5] L.length (fun m v5 w' => ∃ i : Nat, v5 = .int .i64 i ∧ i + m = L.length ∧ Below w.heap.size w w')
 case atStart => exact ⟨0, rfl, Nat.zero_add _, Below.refl _ _⟩
 obtain ⟨i, rfl, hi, HB⟩ := hrel
 cases gk with
 | zero =>
  have hie : i = L.length := hi
  subst hie
  have hlt : decide ((L.length : Int) < (L.length : Int)) = false := decide_eq_false (Int.lt_irrefl _)
  go_wp2
  go_ret
  exact ⟨rfl, HB⟩
 | succ m =>
  have hin : i < L.length := by omega
  have him := Aside0.mk (show i + 1 + m = L.length by omega)
  have HW := Aside0.mk (show wrap64 ((i : Int) + 1) = ((i + 1 : Nat) : Int) from wrap_s hin (by omega))
  have hlt : ((i : Int) < (L.length : Int)) = True := eq_true (Int.ofNat_lt.2 hin)
  have hi0 : (0 ≤ (i : Int)) = True := eq_true (Int.natCast_nonneg i)
  obtain ⟨ad, rfl, hx0, hx1⟩ := flat_at hA (0, 0, 0, 0, 0) (i : Int) (Int.natCast_nonneg i) (Int.ofNat_lt.2 hin)
  obtain ⟨ae, rfl, hy0, hy1⟩ := flat_at hB (0, 0, 0, 0, 0) (i : Int) (Int.natCast_nonneg i) (Int.ofNat_lt.2 hin)
  rw [Int.toNat_natCast] at hx0 hx1 hy0 hy1
  generalize L.getD i (0, 0, 0, 0, 0) = d at *
  have cc0 := pZc (bZd HB) (hx0 _ rfl)
  have cc1 := pZc (bZd HB) (hx1 1 _ (by decide) rfl)
  have cc2 := pZc (bZd HB) (hx1 2 _ (by decide) rfl)
  have cc3 := pZc (bZd HB) (hx1 3 _ (by decide) rfl)
  have cc4 := pZc (bZd HB) (hx1 4 _ (by decide) rfl)
  have cc5 := pZc (bZd HB) (hx1 5 _ (by decide) rfl)
  have cc6 := pZc (bZd HB) (hx1 6 _ (by decide) rfl)
  have cc7 := pZc (bZd HB) (hx1 7 _ (by decide) rfl)
  have cc8 := pZc (bZd HB) (hx1 8 _ (by decide) rfl)
  have cc9 := pZc (bZd HB) (hx1 9 _ (by decide) rfl)
  have dc0 := pZc (bZd HB) (hy0 _ rfl)
  have dc1 := pZc (bZd HB) (hy1 1 _ (by decide) rfl)
  have dc2 := pZc (bZd HB) (hy1 2 _ (by decide) rfl)
  have dc3 := pZc (bZd HB) (hy1 3 _ (by decide) rfl)
  have dc4 := pZc (bZd HB) (hy1 4 _ (by decide) rfl)
  have dc5 := pZc (bZd HB) (hy1 5 _ (by decide) rfl)
  have dc6 := pZc (bZd HB) (hy1 6 _ (by decide) rfl)
  have dc7 := pZc (bZd HB) (hy1 7 _ (by decide) rfl)
  have dc8 := pZc (bZd HB) (hy1 8 _ (by decide) rfl)
  have dc9 := pZc (bZd HB) (hy1 9 _ (by decide) rfl)
  clear hx0 hx1 hy0 hy1 hA hB
  generalize itx d.1.num = s0 at *
  generalize itx (d.1.den : Int) = s1 at *
  generalize itx d.2.1.num = s2 at *
  generalize itx (d.2.1.den : Int) = s3 at *
  generalize itx d.2.2.1.num = s4 at *
  generalize itx (d.2.2.1.den : Int) = s5 at *
  generalize itx d.2.2.2.1.num = s6 at *
  generalize itx (d.2.2.2.1.den : Int) = s7 at *
  generalize itx d.2.2.2.2.num = s8 at *
  generalize itx (d.2.2.2.2.den : Int) = s9 at *
  go_wp2
  refine rZu (fun _ => false) (fun W => Below wr.drew.heap.size wr.drew W) (by kernel_rfl) (cZb _) (Below.refl _ _) ?_
  apply wpU_e 0 17
  apply wpU_e 1 18
  apply wpU_e 2 19
  refine wpU_f 3 20 (h1 := by intro W hW; have e0 := pZc hW cc0; have e1 := pZc hW cc1; have e2 := pZc hW cc2; have e3 := pZc hW cc3; have e4 := pZc hW cc4; have e5 := pZc hW cc5; have e6 := pZc hW cc6; have e7 := pZc hW cc7; have e8 := pZc hW cc8; have e9 := pZc hW cc9; go_simp; try rfl) (h3 := ?_)
  apply wpU_e 4 21
  apply wpU_e 5 22
  apply wpU_e 6 23
  refine wpU_f 7 24 (h1 := by intro W hW; have e0 := pZc hW dc0; have e1 := pZc hW dc1; have e2 := pZc hW dc2; have e3 := pZc hW dc3; have e4 := pZc hW dc4; have e5 := pZc hW dc5; have e6 := pZc hW dc6; have e7 := pZc hW dc7; have e8 := pZc hW dc8; have e9 := pZc hW dc9; go_simp; try rfl) (h3 := ?_)
  apply wpU_e 8 25
  refine wpU_done (by kernel_rfl) (fun W1 hW1 => ?_) _
  go_simp
  go_wp2
  go_roundg m
  case measure => omega
  case rel => exact ⟨i + 1, (by first | rfl | exact congrArg _ HW.out), him.out, bZs (bZd HB) hW1⟩
theorem rv_texts (p q : Rat) : decide (p = q) = ((itx p.num).toList == (itx q.num).toList && (itx (p.den : Int)).toList == (itx (q.den : Int)).toList) := by
 rw [itx_eq, itx_eq, Bool.eq_iff_iff]
 simp only [Bool.and_eq_true, decide_eq_true_eq]
 constructor
 ·rintro rfl
  exact ⟨rfl, rfl⟩
 ·rintro ⟨h1, h2⟩
  exact Rat.ext h1 (by omega)
theorem rv_ite {α : Type} (p q : Rat) (x y : α) : (if (itx p.num).toList = (itx q.num).toList then if (itx (p.den : Int)).toList = (itx (q.den : Int)).toList then x else y else y) = if p = q then x else y := by
 have h := rv_texts p q
 by_cases e : p = q
 ·subst e
  simp
 ·rw [if_neg e]
  rw [decide_eq_false e] at h
  have h := h.symm
  simp only [Bool.and_eq_false_iff, beq_eq_false_iff_ne, ne_eq] at h
  rcases h with h | h <;> simp [h]
theorem ml_check (w : World) : Calls Tryz.prog 123 #[.bool true] w fun e w' => e = .returned (.tuple #[]) ∧ w' = w := by
 go_enter Tryz.func123, Tryz.ntmps123
 go_wp2
 go_end0
 exact ⟨rfl, rfl⟩
theorem ml_must (s1 s2 : ByteArray) (w : World) :
  Calls Tryz.prog 253 #[.agg #[.string s1, .string s2], .int .i64 0] w fun e w' => e = .returned (.agg #[.string s1, .string s2]) ∧ Below w.heap.size w w' := by
 have hB0 : Below w.heap.size w ((w.alloc (.cells #[.string s1, .string s2] 25)).alloc (.cells #[.string s1, .string s2] 25)) := bZa (bZa (Below.refl _ _) _) _
 have k1 := Blk.new2 w #[.string s1, .string s2] #[.string s1, .string s2] 25 25
 go_enter Tryz.func253, Tryz.ntmps253
 go_wp2_with (go_at_call 123; refine (ml_check _).mono ?_; rintro e w2 ⟨rfl, rfl⟩)
 refine bodyPost_ret (rZs rfl (.cell (w.heap.size + 1) 25 #[.string s1, .string s2] (0, 0) _ rfl k1 Tryz.underlying25 rfl (by kernel_rfl) .nil)) rfl ?_
 exact ⟨rfl, hB0⟩
theorem ml_mustR (A B : Option Addr) (m c k d : Nat) (w : World) :
  Calls Tryz.prog 215 #[.agg #[.slice A m c, .slice B k d], .int .i64 0] w fun e w' => e = .returned (.agg #[.slice A m c, .slice B k d]) ∧ Below w.heap.size w w' := by
 have hB0 : Below w.heap.size w ((w.alloc (.cells #[.slice A m c, .slice B k d] 42)).alloc (.cells #[.slice A m c, .slice B k d] 42)) := bZa (bZa (Below.refl _ _) _) _
 have k1 := Blk.new2 w #[.slice A m c, .slice B k d] #[.slice A m c, .slice B k d] 42 42
 go_enter Tryz.func215, Tryz.ntmps215
 go_wp2_with (go_at_call 123; refine (ml_check _).mono ?_; rintro e w2 ⟨rfl, rfl⟩)
 refine bodyPost_ret (rZs rfl (.cell (w.heap.size + 1) 42 #[.slice A m c, .slice B k d] (0, 0) _ rfl k1 Tryz.underlying42 rfl (by kernel_rfl) .nil)) rfl ?_
 exact ⟨rfl, hB0⟩
theorem ml_isHorizontal (a b c d z : Rat) (w : World) :
  Calls Tryz.prog 212 #[psv a b c d z] w fun e w' => e = .returned (.bool (decide (b = d))) ∧ Below w.heap.size w w' := by
 have TX := fun (x y : Result Next) => rv_ite b d x y
 unfold psv
 have hB0 : Below w.heap.size w (w.alloc (.cells #[.string (itx a.num), .string (itx (a.den : Int)), .string (itx b.num), .string (itx (b.den : Int)), .string (itx c.num), .string (itx (c.den : Int)), .string (itx d.num), .string (itx (d.den : Int)), .string (itx z.num), .string (itx (z.den : Int))] 234)) := bZa (Below.refl _ _) _
 rcases Classical.em (b = d) with hh | hh
 ·rw [decide_eq_true hh]
  subst hh
  clear TX
  generalize itx a.num = a1 at *
  generalize itx (a.den : Int) = a2 at *
  generalize itx b.num = b1 at *
  generalize itx (b.den : Int) = b2 at *
  generalize itx c.num = c1 at *
  generalize itx (c.den : Int) = c2 at *
  generalize itx z.num = z1 at *
  generalize itx (z.den : Int) = z2 at *
  go_enter Tryz.func212, Tryz.ntmps212
  go_wp2
  go_ret
  exact ⟨rfl, hB0⟩
 ·rw [decide_eq_false hh]
  have TY := fun (x y : Result Next) => (TX x y).trans (if_neg hh)
  clear TX hh
  generalize itx a.num = a1 at *
  generalize itx (a.den : Int) = a2 at *
  generalize itx b.num = b1 at *
  generalize itx (b.den : Int) = b2 at *
  generalize itx c.num = c1 at *
  generalize itx (c.den : Int) = c2 at *
  generalize itx d.num = d1 at *
  generalize itx (d.den : Int) = d2 at *
  generalize itx z.num = z1 at *
  generalize itx (z.den : Int) = z2 at *
  go_enter Tryz.func212, Tryz.ntmps212
  go_wp2
  go_ret
  exact ⟨rfl, hB0⟩
theorem ml_isVertical (a b c d z : Rat) (w : World) :
  Calls Tryz.prog 213 #[psv a b c d z] w fun e w' => e = .returned (.bool (decide (a = c))) ∧ Below w.heap.size w w' := by
 have TX := fun (x y : Result Next) => rv_ite a c x y
 unfold psv
 have hB0 : Below w.heap.size w (w.alloc (.cells #[.string (itx a.num), .string (itx (a.den : Int)), .string (itx b.num), .string (itx (b.den : Int)), .string (itx c.num), .string (itx (c.den : Int)), .string (itx d.num), .string (itx (d.den : Int)), .string (itx z.num), .string (itx (z.den : Int))] 234)) := bZa (Below.refl _ _) _
 rcases Classical.em (a = c) with hh | hh
 ·rw [decide_eq_true hh]
  subst hh
  clear TX
  generalize itx a.num = a1 at *
  generalize itx (a.den : Int) = a2 at *
  generalize itx b.num = b1 at *
  generalize itx (b.den : Int) = b2 at *
  generalize itx d.num = d1 at *
  generalize itx (d.den : Int) = d2 at *
  generalize itx z.num = z1 at *
  generalize itx (z.den : Int) = z2 at *
  go_enter Tryz.func213, Tryz.ntmps213
  go_wp2
  go_ret
  exact ⟨rfl, hB0⟩
 ·rw [decide_eq_false hh]
  have TY := fun (x y : Result Next) => (TX x y).trans (if_neg hh)
  clear TX hh
  generalize itx a.num = a1 at *
  generalize itx (a.den : Int) = a2 at *
  generalize itx b.num = b1 at *
  generalize itx (b.den : Int) = b2 at *
  generalize itx c.num = c1 at *
  generalize itx (c.den : Int) = c2 at *
  generalize itx d.num = d1 at *
  generalize itx (d.den : Int) = d2 at *
  generalize itx z.num = z1 at *
  generalize itx (z.den : Int) = z2 at *
  go_enter Tryz.func213, Tryz.ntmps213
  go_wp2
  go_ret
  exact ⟨rfl, hB0⟩
theorem ml_wrong (q : Rat) (w : World) (hp : Pow w) (h : Sq q) :
  Calls Tryz.prog 211 #[rv q] w fun e w' => e = .returned (.bool false) ∧ Below w.heap.size w w' := by
 have V := fun W hp => rat_Valid q W hp h
 unfold rv at *
 generalize itx q.num = s1 at *
 generalize itx (q.den : Int) = s2 at *
 have hB0 : Below w.heap.size w (w.alloc (.cells #[.string s1, .string s2] 25)) := bZa (Below.refl _ _) _
 go_enter Tryz.func211, Tryz.ntmps211
 go_wp2_with (go_at_call 44; refine (V _ (hp.below hB0)).mono ?_; rintro e w2 ⟨rfl, hb2⟩)
 go_ret
 exact ⟨rfl, bZs hB0 hb2⟩
end Go.Proofs.YtociicfjhgfgpaaGreatDoor

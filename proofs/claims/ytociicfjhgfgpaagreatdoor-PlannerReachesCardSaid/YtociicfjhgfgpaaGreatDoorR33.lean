/- planner: newPocket: the walk. -/
import Derived.Test.YtociicfjhgfgpaaGreatDoorR22
import Derived.Test.YtociicfjhgfgpaaGreatDoorR29
set_option linter.unusedVariables false
set_option linter.unusedSimpArgs false
set_option maxHeartbeats 32000000
set_option maxRecDepth 100000
namespace Go.Proofs.YtociicfjhgfgpaaGreatDoor
open Go.RowKit Go.Shelf Go.Lib Go.Proofs.YtociicfjhgfgpaaGreatDoorW.PrintWords
def pkv (p : Pkt) : Value := .agg #[.string (itx p.a.num), .string (itx (p.a.den : Int)), .string (itx p.b.num), .string (itx (p.b.den : Int)), .string (itx p.c.num), .string (itx (p.c.den : Int)), .string (itx p.d.num), .string (itx (p.d.den : Int)), .string (itx p.x0.num), .string (itx (p.x0.den : Int)), .string (itx p.y0.num), .string (itx (p.y0.den : Int)), .string (itx p.x1.num), .string (itx (p.x1.den : Int)), .string (itx p.y1.num), .string (itx (p.y1.den : Int)), .string (itx p.r.num), .string (itx (p.r.den : Int))]
def fitsP (x0 y0 x1 y1 r : Rat) : Bool := !decide (x1 - r < x0 + r) && !decide (y1 - r < y0 + r)
theorem Blk.farR {w : World} {b g : Nat} {cs : Array Value} {t : TypeId} (h : Blk w b cs t) (hn : b ≠ g) (vs : Array Value) : Blk (w.setRow g vs) b cs t := (setRow_other w g b vs hn).trans h
theorem Blk.row {w : World} {g : Nat} {cs : Array Value} {t : TypeId} (h : Blk w g cs t) (vs : Array Value) : Blk (w.setRow g vs) g vs t := setRow_heap w g cs vs t (0, 0) h
theorem below_row {w W : World} {g : Nat} (h : Below w.heap.size w W) (hg : w.heap.size ≤ g) (vs : Array Value) : Below w.heap.size w (W.setRow g vs) :=
 h.trans ⟨rfl, rfl, rfl, by simp, fun k hk => setRow_other W g k vs (by omega)⟩
theorem pl_new (x0 y0 x1 y1 r : Rat) (pa : Addr) (w : World) (hp : Pow w) (hP : Plan w pa) (h0 : Sm 40 x0) (h1 : Sm 40 y0) (h2 : Sm 40 x1) (h3 : Sm 40 y1) (h4 : Sm 40 r) (hr : 0 < r) (hx : x0 < x1) (hy : y0 < y1) :
  Calls Tryz.prog 28 #[rcv x0 y0 x1 y1, rv r] w fun e w' => e = (if fitsP x0 y0 x1 y1 r then .returned (pkv (Pkt.of x0 y0 x1 y1 r)) else .panicked (chain pa false)) ∧ Below w.heap.size w w' := by
 have q0 : Sq x0 := h0.le (by decide)
 have q1 : Sq y0 := h1.le (by decide)
 have q2 : Sq x1 := h2.le (by decide)
 have q3 : Sq y1 := h3.le (by decide)
 have q4 : Sq r := h4.le (by decide)
 have t0 : Sq (x0 + r) := (sm_add h0 h4).le (by decide)
 have t1 : Sq (y0 + r) := (sm_add h1 h4).le (by decide)
 have t2 : Sq (x1 - r) := (sm_sub h2 h4).le (by decide)
 have t3 : Sq (y1 - r) := (sm_sub h3 h4).le (by decide)
 have hh0 : 0 < w.heap.size := World.block_lt_of_cell? _ _ hP
 have F := fun A n W (hp : Pow W) hq hc => ctnF_none 66 A n [x0, y0, x1, y1, r] W hq hc (enters_of Tryz.func66 (by kernel_rfl) rfl) (fun q hq W' hb => pl_wrong q W' (hp.below hb) (by
  simp only [List.mem_cons, List.not_mem_nil, or_false] at hq
  rcases hq with rfl | rfl | rfl | rfl | rfl
  ·exact q0
  ·exact q1
  ·exact q2
  ·exact q3
  ·exact q4))
 have HC := fun (W : World) (g : Nat) (hk : Blk W g #[.string (itx x0.num), .string (itx (x0.den : Int)), .string (itx y0.num), .string (itx (y0.den : Int)), .string (itx x1.num), .string (itx (x1.den : Int)), .string (itx y1.num), .string (itx (y1.den : Int)), .string (itx r.num), .string (itx (r.den : Int))] 25) => flat_blk (n := 2) (enc := encQ) (hl := fun _ => rfl) (h1 := fun x u hu => by simp [encQ] at hu; rcases hu with rfl | rfl <;> rfl) [x0, y0, x1, y1, r] hk rfl (by simp)
 have FC := fun (g : Nat) (W : World) (hp : Pow W) hk => F (some ⟨g, 0, none⟩) 5 W hp (HC W g hk) (by simp)
 clear F HC
 have PL1 := fun g W hp hk => pl_plus g x0 r W hp hk q0 q4
 have PL2 := fun g W hp hk => pl_plus g y0 r W hp hk q1 q4
 have MI1 := fun g W hp hk => pl_minus g x1 r W hp hk q2 q4
 have MI2 := fun g W hp hk => pl_minus g y1 r W hp hk q3 q4
 have L1 := fun W hp => pl_isLess (x1 - r) (x0 + r) W hp t2 t0
 have L2 := fun W hp => pl_isLess (y1 - r) (y0 + r) W hp t3 t1
 have L3 := fun W hp => pl_isLess 0 r W hp sq_zero q4
 have OF := fun W hp => rat_Of 0 1 W hp (by decide) (by decide) (by decide) (by decide)
 have WI := fun W hp => pl_isWide x0 y0 x1 y1 W hp q0 q2
 have HI := fun W hp => pl_isHigh x0 y0 x1 y1 W hp q1 q3
 rw [decide_eq_true hr] at L3
 rw [decide_eq_true hx] at WI
 rw [decide_eq_true hy] at HI
 rw [show mkRat 0 (1 : Int).toNat = 0 from rfl, rv_zero] at OF
 rw [rv_zero] at L3
 have CO := fun W => pl_check_ok W
 have CB := fun W (h : Plan W pa) => pl_check_bad pa W h
 have MU := fun W => pl_must ⟨#[48]⟩ ⟨#[49]⟩ W
 clear hr hx hy q0 q1 q2 q3 q4 t0 t1 t2 t3 h0 h1 h2 h3 h4
 unfold fitsP pkv Pkt.of
 dsimp only
 obtain ⟨bx, hbx⟩ : ∃ b, decide (x1 - r < x0 + r) = b := ⟨_, rfl⟩
 obtain ⟨by_, hby⟩ : ∃ b, decide (y1 - r < y0 + r) = b := ⟨_, rfl⟩
 rw [hbx] at L1 ⊢
 rw [hby] at L2 ⊢
 clear hbx hby
 unfold rv rcv at *
 generalize itx (x0 + r).num = e1 at *
 generalize itx ((x0 + r).den : Int) = e2 at *
 generalize itx (y0 + r).num = f1 at *
 generalize itx ((y0 + r).den : Int) = f2 at *
 generalize itx (x1 - r).num = g1 at *
 generalize itx ((x1 - r).den : Int) = g2 at *
 generalize itx (y1 - r).num = h1 at *
 generalize itx ((y1 - r).den : Int) = h2 at *
 generalize itx x0.num = a1 at *
 generalize itx (x0.den : Int) = a2 at *
 generalize itx y0.num = b1 at *
 generalize itx (y0.den : Int) = b2 at *
 generalize itx x1.num = c1 at *
 generalize itx (x1.den : Int) = c2 at *
 generalize itx y1.num = d1 at *
 generalize itx (y1.den : Int) = d2 at *
 generalize itx r.num = r1 at *
 generalize itx (r.den : Int) = r2 at *
 obtain ⟨hB0, k0, k1, k2⟩ := news3 w #[.string a1, .string a2, .string b1, .string b2, .string c1, .string c2, .string d1, .string d2] 69 #[.string r1, .string r2] 25 #[.string ⟨#[]⟩, .string ⟨#[]⟩, .string ⟨#[]⟩, .string ⟨#[]⟩, .string ⟨#[]⟩, .string ⟨#[]⟩, .string ⟨#[]⟩, .string ⟨#[]⟩, .string ⟨#[]⟩, .string ⟨#[]⟩, .string ⟨#[]⟩, .string ⟨#[]⟩, .string ⟨#[]⟩, .string ⟨#[]⟩, .string ⟨#[]⟩, .string ⟨#[]⟩, .string ⟨#[]⟩, .string ⟨#[]⟩] 71
 have BK : Blk ((((w.alloc (.cells #[.string a1, .string a2, .string b1, .string b2, .string c1, .string c2, .string d1, .string d2] 69)).alloc (.cells #[.string r1, .string r2] 25)).alloc (.cells #[.string ⟨#[]⟩, .string ⟨#[]⟩, .string ⟨#[]⟩, .string ⟨#[]⟩, .string ⟨#[]⟩, .string ⟨#[]⟩, .string ⟨#[]⟩, .string ⟨#[]⟩, .string ⟨#[]⟩, .string ⟨#[]⟩, .string ⟨#[]⟩, .string ⟨#[]⟩, .string ⟨#[]⟩, .string ⟨#[]⟩, .string ⟨#[]⟩, .string ⟨#[]⟩, .string ⟨#[]⟩, .string ⟨#[]⟩] 71)).alloc (.cells #[.string a1, .string a2, .string b1, .string b2, .string c1, .string c2, .string d1, .string d2, .string r1, .string r2] 25)) (w.heap.size + 1 + 1 + 1) #[.string a1, .string a2, .string b1, .string b2, .string c1, .string c2, .string d1, .string d2, .string r1, .string r2] 25 := by
  have := Blk.new (((w.alloc (.cells #[.string a1, .string a2, .string b1, .string b2, .string c1, .string c2, .string d1, .string d2] 69)).alloc (.cells #[.string r1, .string r2] 25)).alloc (.cells #[.string ⟨#[]⟩, .string ⟨#[]⟩, .string ⟨#[]⟩, .string ⟨#[]⟩, .string ⟨#[]⟩, .string ⟨#[]⟩, .string ⟨#[]⟩, .string ⟨#[]⟩, .string ⟨#[]⟩, .string ⟨#[]⟩, .string ⟨#[]⟩, .string ⟨#[]⟩, .string ⟨#[]⟩, .string ⟨#[]⟩, .string ⟨#[]⟩, .string ⟨#[]⟩, .string ⟨#[]⟩, .string ⟨#[]⟩] 71)) #[.string a1, .string a2, .string b1, .string b2, .string c1, .string c2, .string d1, .string d2, .string r1, .string r2] 25
  rwa [World.size_alloc, World.size_alloc, World.size_alloc] at this
 have hmf := mk_fn
 go_enter Tryz.func28, Tryz.ntmps28
 go_wp2_with (first | (go_at_call 68; refine (FC _ _ (hp.below (bZa hB0 _)) BK).mono ?_; clear FC BK; rintro e w2 ⟨rfl, hb2⟩; have hB2 := bZs (bZa hB0 (.cells #[.string a1, .string a2, .string b1, .string b2, .string c1, .string c2, .string d1, .string d2, .string r1, .string r2] 25)) hb2; have K0 := (k0.alloc (.cells #[.string a1, .string a2, .string b1, .string b2, .string c1, .string c2, .string d1, .string d2, .string r1, .string r2] 25)).below hb2; have K1 := (k1.alloc (.cells #[.string a1, .string a2, .string b1, .string b2, .string c1, .string c2, .string d1, .string d2, .string r1, .string r2] 25)).below hb2; have K2 := (k2.alloc (.cells #[.string a1, .string a2, .string b1, .string b2, .string c1, .string c2, .string d1, .string d2, .string r1, .string r2] 25)).below hb2) | (go_at_call 67; refine (CO _).mono ?_; rintro e w3 ⟨rfl, rfl⟩))
 have S0 := K0.drew
 have S1 := K1.drew
 have S2 := K2.drew
 have hB3 := bZd hB2
 clear hB0 hB2 hb2 K0 K1 K2 k0 k1 k2
 refine rZu (fun i => i == 24) (fun W => Below w3.drew.heap.size w3.drew W) (by kernel_rfl) (cZb _) (Below.refl _ _) ?_
 apply wpU_e 0 30
 apply wpU_e 1 31
 apply wpU_e 2 32
 refine wpU_f 3 33 (h1 := by intro W hW; have e0 := (S0.below hW).cell 0; have e1 := (S0.below hW).cell 1; go_simp; try rfl) (h3 := ?_)
 apply wpU_e 5 35
 apply wpU_e 6 36
 apply wpU_e 7 37
 refine wpU_f 8 38 (h1 := by intro W hW; have e2 := (S0.below hW).cell 2; have e3 := (S0.below hW).cell 3; go_simp; try rfl) (h3 := ?_)
 apply wpU_e 11 41
 apply wpU_e 12 42
 apply wpU_e 13 43
 refine wpU_f 14 44 (h1 := by intro W hW; have e4 := (S0.below hW).cell 4; have e5 := (S0.below hW).cell 5; go_simp; try rfl) (h3 := ?_)
 apply wpU_e 16 46
 apply wpU_e 17 47
 apply wpU_e 18 48
 refine wpU_f 19 49 (h1 := by intro W hW; have e6 := (S0.below hW).cell 6; have e7 := (S0.below hW).cell 7; go_simp; try rfl) (h3 := ?_)
 refine wpU_ca 4 34 Tryz.func69 (fun W hW => PL1 (w.heap.size + 1) W (hp.below (bZs hB3 hW)) (S1.below hW)) ?_
 refine wpU_ac ?_
 refine wpU_ca 9 39 Tryz.func69 (fun W hW => PL2 (w.heap.size + 1) W (hp.below (bZs hB3 hW)) (S1.below hW)) ?_
 refine wpU_ac ?_
 apply wpU_e 10 40
 refine wpU_ca 15 45 Tryz.func71 (fun W hW => MI1 (w.heap.size + 1) W (hp.below (bZs hB3 hW)) (S1.below hW)) ?_
 refine wpU_ac ?_
 refine wpU_ca 20 50 Tryz.func71 (fun W hW => MI2 (w.heap.size + 1) W (hp.below (bZs hB3 hW)) (S1.below hW)) ?_
 refine wpU_ac ?_
 apply wpU_e 21 51
 apply wpU_e 22 52
 refine wpU_new (i := 23) (d := some 8) rfl rfl (by kernel_rfl) (by rfl) ⟨fun n => .pointer (some ⟨n, 0, none⟩), #[.string ⟨#[]⟩, .string ⟨#[]⟩, .string ⟨#[]⟩, .string ⟨#[]⟩, .string ⟨#[]⟩, .string ⟨#[]⟩, .string ⟨#[]⟩, .string ⟨#[]⟩], 69, fun W => ?_, fun g0 hg0 => ?_⟩
 ·go_simp
  try rfl
 refine wpU_late (by kernel_rfl) (fun W1 hW1 => ?_)
 obtain ⟨hbW, kG⟩ := hW1
 have hgb : w.heap.size + 3 ≤ g0 := by
  obtain ⟨Wa, h, e⟩ := hg0
  rw [e]
  have := (S2.below h).lt
  omega
 clear hg0 PL1 PL2 MI1 MI2
 refine wpAny_last (i := 24) (by kernel_rfl) rfl (by kernel_rfl) (by rfl) (fun K hK => ?_)
 refine wp_store_row 69 (.tmp 8) (.tmp 52) rfl g0 #[.string e1, .string e2, .string f1, .string f2, .string g1, .string g2, .string h1, .string h2] rfl rfl 69 #[.string ⟨#[]⟩, .string ⟨#[]⟩, .string ⟨#[]⟩, .string ⟨#[]⟩, .string ⟨#[]⟩, .string ⟨#[]⟩, .string ⟨#[]⟩, .string ⟨#[]⟩] kG (by kernel_rfl) rfl (by simp [Value.oneCell']) (hK _ _ ?_)
 clear hK K
 have T := kG.row #[.string e1, .string e2, .string f1, .string f2, .string g1, .string g2, .string h1, .string h2]
 have T0 := (S0.below hbW).farR (show w.heap.size ≠ g0 by omega) #[.string e1, .string e2, .string f1, .string f2, .string g1, .string g2, .string h1, .string h2]
 have T1 := (S1.below hbW).farR (show w.heap.size + 1 ≠ g0 by omega) #[.string e1, .string e2, .string f1, .string f2, .string g1, .string g2, .string h1, .string h2]
 have T2 := (S2.below hbW).farR (show w.heap.size + 2 ≠ g0 by omega) #[.string e1, .string e2, .string f1, .string f2, .string g1, .string g2, .string h1, .string h2]
 have hB4 := below_row (bZs hB3 hbW) (show w.heap.size ≤ g0 by omega) #[.string e1, .string e2, .string f1, .string f2, .string g1, .string g2, .string h1, .string h2]
 generalize W1.setRow g0 #[.string e1, .string e2, .string f1, .string f2, .string g1, .string g2, .string h1, .string h2] = w4 at *
 clear kG hbW S0 S1 S2 hB3
 have tc0 := T.cell 0
 have tc1 := T.cell 1
 have tc2 := T.cell 2
 have tc3 := T.cell 3
 have tc4 := T.cell 4
 have tc5 := T.cell 5
 have tc6 := T.cell 6
 have tc7 := T.cell 7
 cases bx with
 | true =>
  go_wp2_with (go_at_call 72; refine (L1 _ (hp.below hB4)).mono ?_; clear L1; rintro e w5 ⟨rfl, hb5⟩; have hB5 := bZs hB4 hb5; have U := T.below hb5; have U0 := T0.below hb5; have U1 := T1.below hb5; have U2 := T2.below hb5)
  have X0 := U0.drew
  have X1 := U1.drew
  have hB8 := bZd hB5
  refine rZu (fun i => i == 17) (fun W => Below w5.drew.heap.size w5.drew W) (by kernel_rfl) (cZb _) (Below.refl _ _) ?_
  refine wpU_f 4 75 (h1 := by intro W hW; have e0 := (X1.below hW).cell 0; have e1 := (X1.below hW).cell 1; go_simp; try rfl) (h3 := ?_)
  refine wpU_ca 0 71 Tryz.func73 (fun W hW => OF W (hp.below (bZs hB8 hW))) ?_
  refine wpU_ac ?_
  apply wpU_e 1 72
  apply wpU_e 2 73
  refine wpU_ca 3 74 Tryz.func70 (fun W hW => MU W) ?_
  refine wpU_ac ?_
  refine wpU_ca 5 76 Tryz.func72 (fun W hW => L3 W (hp.below (bZs hB8 hW))) ?_
  refine wpU_ac ?_
  apply wpU_e 6 77
  refine wpU_f 7 78 (h1 := by intro W hW; have hC := X0.below hW; have e0 := hC.cell 0; have e1 := hC.cell 1; have e2 := hC.cell 2; have e3 := hC.cell 3; have e4 := hC.cell 4; have e5 := hC.cell 5; have e6 := hC.cell 6; have e7 := hC.cell 7; clear hC; go_simp; try rfl) (h3 := ?_)
  refine wpU_ca 8 79 Tryz.func74 (fun W hW => WI W (hp.below (bZs hB8 hW))) ?_
  refine wpU_ac ?_
  apply wpU_e 9 80
  apply wpU_e 10 81
  refine wpU_f 11 82 (h1 := by intro W hW; have hC := X0.below hW; have e0 := hC.cell 0; have e1 := hC.cell 1; have e2 := hC.cell 2; have e3 := hC.cell 3; have e4 := hC.cell 4; have e5 := hC.cell 5; have e6 := hC.cell 6; have e7 := hC.cell 7; clear hC; go_simp; try rfl) (h3 := ?_)
  refine wpU_ca 12 83 Tryz.func75 (fun W hW => HI W (hp.below (bZs hB8 hW))) ?_
  refine wpU_ac ?_
  apply wpU_e 13 84
  apply wpU_e 14 85
  apply wpU_e 15 86
  apply wpU_e 16 87
  refine wpU_late (by kernel_rfl) (fun W1 hW1 => ?_)
  refine wpAny_last (i := 17) (by kernel_rfl) rfl (by kernel_rfl) (by rfl) (fun K hK => ?_)
  go_simp
  go_at_call 67
  refine (CB _ (hP.below (bZs hB8 hW1) hh0)).mono ?_
  rintro e w9 ⟨rfl, rfl⟩
  exact ⟨rfl, rfl, bZs hB8 hW1⟩
 | false =>
  cases by_ with
  | true =>
   go_wp2_with (first | (go_at_call 72; refine (L1 _ (hp.below hB4)).mono ?_; clear L1; rintro e w5 ⟨rfl, hb5⟩; have hB5 := bZs hB4 hb5; have U := T.below hb5; have U0 := T0.below hb5; have U1 := T1.below hb5; have U2 := T2.below hb5; have uc0 := U.cell 0; have uc1 := U.cell 1; have uc2 := U.cell 2; have uc3 := U.cell 3; have uc4 := U.cell 4; have uc5 := U.cell 5; have uc6 := U.cell 6; have uc7 := U.cell 7) | (go_at_call 72; refine (L2 _ (hp.below hB5)).mono ?_; clear L2; rintro e w6 ⟨rfl, hb6⟩; have hB6 := bZs hB5 hb6; have V := U.below hb6; have V0 := U0.below hb6; have V1 := U1.below hb6; have V2 := U2.below hb6))
   have X0 := V0.drew
   have X1 := V1.drew
   have hB8 := bZd hB6
   refine rZu (fun i => i == 17) (fun W => Below w6.drew.heap.size w6.drew W) (by kernel_rfl) (cZb _) (Below.refl _ _) ?_
   refine wpU_f 4 75 (h1 := by intro W hW; have e0 := (X1.below hW).cell 0; have e1 := (X1.below hW).cell 1; go_simp; try rfl) (h3 := ?_)
   refine wpU_ca 0 71 Tryz.func73 (fun W hW => OF W (hp.below (bZs hB8 hW))) ?_
   refine wpU_ac ?_
   apply wpU_e 1 72
   apply wpU_e 2 73
   refine wpU_ca 3 74 Tryz.func70 (fun W hW => MU W) ?_
   refine wpU_ac ?_
   refine wpU_ca 5 76 Tryz.func72 (fun W hW => L3 W (hp.below (bZs hB8 hW))) ?_
   refine wpU_ac ?_
   apply wpU_e 6 77
   refine wpU_f 7 78 (h1 := by intro W hW; have hC := X0.below hW; have e0 := hC.cell 0; have e1 := hC.cell 1; have e2 := hC.cell 2; have e3 := hC.cell 3; have e4 := hC.cell 4; have e5 := hC.cell 5; have e6 := hC.cell 6; have e7 := hC.cell 7; clear hC; go_simp; try rfl) (h3 := ?_)
   refine wpU_ca 8 79 Tryz.func74 (fun W hW => WI W (hp.below (bZs hB8 hW))) ?_
   refine wpU_ac ?_
   apply wpU_e 9 80
   apply wpU_e 10 81
   refine wpU_f 11 82 (h1 := by intro W hW; have hC := X0.below hW; have e0 := hC.cell 0; have e1 := hC.cell 1; have e2 := hC.cell 2; have e3 := hC.cell 3; have e4 := hC.cell 4; have e5 := hC.cell 5; have e6 := hC.cell 6; have e7 := hC.cell 7; clear hC; go_simp; try rfl) (h3 := ?_)
   refine wpU_ca 12 83 Tryz.func75 (fun W hW => HI W (hp.below (bZs hB8 hW))) ?_
   refine wpU_ac ?_
   apply wpU_e 13 84
   apply wpU_e 14 85
   apply wpU_e 15 86
   apply wpU_e 16 87
   refine wpU_late (by kernel_rfl) (fun W1 hW1 => ?_)
   refine wpAny_last (i := 17) (by kernel_rfl) rfl (by kernel_rfl) (by rfl) (fun K hK => ?_)
   go_simp
   go_at_call 67
   refine (CB _ (hP.below (bZs hB8 hW1) hh0)).mono ?_
   rintro e w9 ⟨rfl, rfl⟩
   exact ⟨rfl, rfl, bZs hB8 hW1⟩
  | false =>
   go_wp2_with (first | (go_at_call 72; refine (L1 _ (hp.below hB4)).mono ?_; clear L1; rintro e w5 ⟨rfl, hb5⟩; have hB5 := bZs hB4 hb5; have U := T.below hb5; have U0 := T0.below hb5; have U1 := T1.below hb5; have U2 := T2.below hb5; have uc0 := U.cell 0; have uc1 := U.cell 1; have uc2 := U.cell 2; have uc3 := U.cell 3; have uc4 := U.cell 4; have uc5 := U.cell 5; have uc6 := U.cell 6; have uc7 := U.cell 7) | (go_at_call 72; refine (L2 _ (hp.below hB5)).mono ?_; clear L2; rintro e w6 ⟨rfl, hb6⟩; have hB6 := bZs hB5 hb6; have V := U.below hb6; have V0 := U0.below hb6; have V1 := U1.below hb6; have V2 := U2.below hb6))
   have X0 := V0.drew
   have X1 := V1.drew
   have hB8 := bZd hB6
   have X2 := V2.drew
   have X := V.drew
   refine rZu (fun i => i == 17) (fun W => Below w6.drew.heap.size w6.drew W) (by kernel_rfl) (cZb _) (Below.refl _ _) ?_
   refine wpU_f 4 75 (h1 := by intro W hW; have e0 := (X1.below hW).cell 0; have e1 := (X1.below hW).cell 1; go_simp; try rfl) (h3 := ?_)
   refine wpU_ca 0 71 Tryz.func73 (fun W hW => OF W (hp.below (bZs hB8 hW))) ?_
   refine wpU_ac ?_
   apply wpU_e 1 72
   apply wpU_e 2 73
   refine wpU_ca 3 74 Tryz.func70 (fun W hW => MU W) ?_
   refine wpU_ac ?_
   refine wpU_ca 5 76 Tryz.func72 (fun W hW => L3 W (hp.below (bZs hB8 hW))) ?_
   refine wpU_ac ?_
   apply wpU_e 6 77
   refine wpU_f 7 78 (h1 := by intro W hW; have hC := X0.below hW; have e0 := hC.cell 0; have e1 := hC.cell 1; have e2 := hC.cell 2; have e3 := hC.cell 3; have e4 := hC.cell 4; have e5 := hC.cell 5; have e6 := hC.cell 6; have e7 := hC.cell 7; clear hC; go_simp; try rfl) (h3 := ?_)
   refine wpU_ca 8 79 Tryz.func74 (fun W hW => WI W (hp.below (bZs hB8 hW))) ?_
   refine wpU_ac ?_
   apply wpU_e 9 80
   apply wpU_e 10 81
   refine wpU_f 11 82 (h1 := by intro W hW; have hC := X0.below hW; have e0 := hC.cell 0; have e1 := hC.cell 1; have e2 := hC.cell 2; have e3 := hC.cell 3; have e4 := hC.cell 4; have e5 := hC.cell 5; have e6 := hC.cell 6; have e7 := hC.cell 7; clear hC; go_simp; try rfl) (h3 := ?_)
   refine wpU_ca 12 83 Tryz.func75 (fun W hW => HI W (hp.below (bZs hB8 hW))) ?_
   refine wpU_ac ?_
   apply wpU_e 13 84
   apply wpU_e 14 85
   apply wpU_e 15 86
   apply wpU_e 16 87
   refine wpU_late (by kernel_rfl) (fun W1 hW1 => ?_)
   refine wpAny_last (i := 17) (by kernel_rfl) rfl (by kernel_rfl) (by rfl) (fun K hK => ?_)
   go_simp
   go_at_call 67
   refine (CO _).mono ?_
   rintro e w9 ⟨rfl, rfl⟩
   refine hK _ _ ?_
   clear hK K
   have Y0 := X0.below hW1
   have Y1 := X1.below hW1
   have Y2 := X2.below hW1
   have Y := X.below hW1
   have hB9 := bZs hB8 hW1
   have a0' := Y.cell 0
   have b0' := Y0.cell 0
   have a1' := Y.cell 1
   have b1' := Y0.cell 1
   have a2' := Y.cell 2
   have b2' := Y0.cell 2
   have a3' := Y.cell 3
   have b3' := Y0.cell 3
   have a4' := Y.cell 4
   have b4' := Y0.cell 4
   have a5' := Y.cell 5
   have b5' := Y0.cell 5
   have a6' := Y.cell 6
   have b6' := Y0.cell 6
   have a7' := Y.cell 7
   have b7' := Y0.cell 7
   obtain ⟨r0', r1', _, _⟩ := Y1.two
   clear hB8 hW1 X0 X1 X2 X OF WI HI L3 MU CB
   go_wp2_with (refine wpList_store_row rfl 71 (.tmp 4) (.tmp 92) rfl (w.heap.size + 2) #[.string e1, .string e2, .string f1, .string f2, .string g1, .string g2, .string h1, .string h2, .string a1, .string a2, .string b1, .string b2, .string c1, .string c2, .string d1, .string d2, .string r1, .string r2] rfl rfl 71 #[.string ⟨#[]⟩, .string ⟨#[]⟩, .string ⟨#[]⟩, .string ⟨#[]⟩, .string ⟨#[]⟩, .string ⟨#[]⟩, .string ⟨#[]⟩, .string ⟨#[]⟩, .string ⟨#[]⟩, .string ⟨#[]⟩, .string ⟨#[]⟩, .string ⟨#[]⟩, .string ⟨#[]⟩, .string ⟨#[]⟩, .string ⟨#[]⟩, .string ⟨#[]⟩, .string ⟨#[]⟩, .string ⟨#[]⟩] Y2 (by kernel_rfl) rfl (by simp [Value.oneCell']) ?_)
   refine bodyPost_ret (rZs rfl (.cell (w.heap.size + 2) 71 #[.string e1, .string e2, .string f1, .string f2, .string g1, .string g2, .string h1, .string h2, .string a1, .string a2, .string b1, .string b2, .string c1, .string c2, .string d1, .string d2, .string r1, .string r2] (0, 0) _ rfl (Y2.row #[.string e1, .string e2, .string f1, .string f2, .string g1, .string g2, .string h1, .string h2, .string a1, .string a2, .string b1, .string b2, .string c1, .string c2, .string d1, .string d2, .string r1, .string r2]) Tryz.underlying71 rfl (by kernel_rfl) .nil)) rfl ?_
   exact ⟨rfl, below_row hB9 (Nat.le_add_right _ _) #[.string e1, .string e2, .string f1, .string f2, .string g1, .string g2, .string h1, .string h2, .string a1, .string a2, .string b1, .string b2, .string c1, .string c2, .string d1, .string d2, .string r1, .string r2]⟩
end Go.Proofs.YtociicfjhgfgpaaGreatDoor

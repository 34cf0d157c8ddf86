/- planner: Reachable: the walks. -/
import Derived.Test.YtociicfjhgfgpaaGreatDoorM41
set_option linter.unusedVariables false
set_option linter.unusedSimpArgs false
namespace Go.Proofs.YtociicfjhgfgpaaGreatDoor
open Go.RowKit Go.Shelf Go.Lib Go.Proofs.YtociicfjhgfgpaaGreatDoorW.PrintWords
structure Inp (x0 y0 x1 y1 r : Rat) : Prop where
 h0 : Sm 40 x0
 h1 : Sm 40 y0
 h2 : Sm 40 x1
 h3 : Sm 40 y1
 h4 : Sm 40 r
 hr : 0 < r
 hx : x0 < x1
 hy : y0 < y1
theorem Inp.sq {x0 y0 x1 y1 r : Rat} (h : Inp x0 y0 x1 y1 r) : SqPk (Pkt.of x0 y0 x1 y1 r) :=
 ⟨(sm_add h.h0 h.h4).le (by decide), (sm_add h.h1 h.h4).le (by decide), (sm_sub h.h2 h.h4).le (by decide), (sm_sub h.h3 h.h4).le (by decide), h.h0.le (by decide), h.h1.le (by decide), h.h2.le (by decide), h.h3.le (by decide), h.h4.le (by decide)⟩
set_option maxHeartbeats 4000000 in
set_option maxRecDepth 100000 in
theorem pl_R1_ok (b0 b1 b2 b3 b4 : Nat) (x0 y0 x1 y1 r : Rat) (pa : Addr) (w : World) (hp : Pow w) (hP : Plan w pa) (g0 : Blk w b0 #[.string (itx x0.num), .string (itx (x0.den : Int))] 25) (g1 : Blk w b1 #[.string (itx y0.num), .string (itx (y0.den : Int))] 25) (g2 : Blk w b2 #[.string (itx x1.num), .string (itx (x1.den : Int))] 25) (g3 : Blk w b3 #[.string (itx y1.num), .string (itx (y1.den : Int))] 25) (g4 : Blk w b4 #[.string (itx r.num), .string (itx (r.den : Int))] 25) (hI : Inp x0 y0 x1 y1 r) (hf : fitsP x0 y0 x1 y1 r = true) :
  Calls Tryz.prog 35 #[.pointer (some ⟨b0, 0, none⟩), .pointer (some ⟨b1, 0, none⟩), .pointer (some ⟨b2, 0, none⟩), .pointer (some ⟨b3, 0, none⟩), .pointer (some ⟨b4, 0, none⟩)] w fun e w' => ∃ A m c B k d, e = .returned (.agg #[.slice A m c, .slice B k d]) ∧ OwnR w' w.heap.size (.agg #[.slice A m c, .slice B k d]) (reachR (Pkt.of x0 y0 x1 y1 r)) ∧ Below w.heap.size w w' := by
 have NP := fun W hp hP => pl_new x0 y0 x1 y1 r pa W hp hP hI.h0 hI.h1 hI.h2 hI.h3 hI.h4 hI.hr hI.hx hI.hy
 rw [hf] at NP
 have RE := fun W hp => pl_reach (Pkt.of x0 y0 x1 y1 r) W hp hI.sq hI.h4 hI.hr hI.hx hI.hy
 have hh0 : 0 < w.heap.size := World.block_lt_of_cell? _ _ hP
 generalize pkv (Pkt.of x0 y0 x1 y1 r) = PK at *
 generalize reachR (Pkt.of x0 y0 x1 y1 r) = RG at *
 clear hI hf
 unfold rcv rv at NP
 simp only [if_true] at NP
 generalize itx x0.num = a1 at *
 generalize itx (x0.den : Int) = a2 at *
 generalize itx y0.num = b1 at *
 generalize itx (y0.den : Int) = b2 at *
 generalize itx x1.num = c1 at *
 generalize itx (x1.den : Int) = c2 at *
 generalize itx y1.num = d1 at *
 generalize itx (y1.den : Int) = d2 at *
 generalize itx r.num = r1 at *
 generalize itx (r.den : Int) = r2 at *
 have hB0 : Below w.heap.size w (w.alloc (.cells #[.slice none 0 0, .slice none 0 0] 42)) := below_alloc (Below.refl _ _) _
 have k0 := (Blk.new w #[.slice none 0 0, .slice none 0 0] 42)
 obtain ⟨p0, p1, _, _⟩ := (g0.alloc (.cells #[.slice none 0 0, .slice none 0 0] 42)).two
 obtain ⟨p2, p3, _, _⟩ := (g1.alloc (.cells #[.slice none 0 0, .slice none 0 0] 42)).two
 obtain ⟨p4, p5, _, _⟩ := (g2.alloc (.cells #[.slice none 0 0, .slice none 0 0] 42)).two
 obtain ⟨p6, p7, _, _⟩ := (g3.alloc (.cells #[.slice none 0 0, .slice none 0 0] 42)).two
 obtain ⟨p8, p9, _, _⟩ := (g4.alloc (.cells #[.slice none 0 0, .slice none 0 0] 42)).two
 go_enter Tryz.func35, Tryz.ntmps35
 go_wp2_with (first | (go_at_call 28; refine (NP _ (hp.below hB0) (hP.below hB0 hh0)).mono ?_; clear NP; rintro e w2 ⟨rfl, hb2⟩; have hB2 := below_step hB0 hb2) | (go_at_call 36; refine (RE _ (hp.below hB2)).mono ?_; clear RE; rintro e w3 ⟨v, rfl, ⟨xx, yy, rfl, HX, HY⟩, hb3⟩; obtain ⟨XA, xc, ex⟩ := Kd.R_slice HX; obtain ⟨YA, yc, ey⟩ := Kd.R_slice HY; subst ex ey; have hB3 := below_step hB2 hb3; have K3 := (k0.below hb2).below hb3; obtain ⟨r0, r1, q0, q1⟩ := K3.two))
 have hO : OwnR w3 w2.heap.size (.agg #[.slice XA RG.1.length xc, .slice YA RG.2.length yc]) RG := ⟨_, _, rfl, HX, HY⟩
 have h9 := OwnR.set (OwnR.set (hO.lower (below_size hB2)) K3 (by decide) (by decide) 0 (.slice XA RG.1.length xc)) (K3.set 0 _) (by decide) (by decide) 1 (.slice YA RG.2.length yc)
 refine bodyPost_ret (results_single rfl (.cell w.heap.size 42 #[.slice XA RG.1.length xc, .slice YA RG.2.length yc] (0, 0) _ rfl ((K3.set 0 _).set 1 _) Tryz.underlying42 rfl (by kernel_rfl) .nil)) rfl ?_
 exact ⟨_, _, _, _, _, _, rfl, h9, below_set (below_set hB3 (Nat.le_refl _)) (Nat.le_refl _)⟩
set_option maxHeartbeats 4000000 in
set_option maxRecDepth 100000 in
theorem pl_R1_bad (b0 b1 b2 b3 b4 : Nat) (x0 y0 x1 y1 r : Rat) (pa : Addr) (w : World) (hp : Pow w) (hP : Plan w pa) (g0 : Blk w b0 #[.string (itx x0.num), .string (itx (x0.den : Int))] 25) (g1 : Blk w b1 #[.string (itx y0.num), .string (itx (y0.den : Int))] 25) (g2 : Blk w b2 #[.string (itx x1.num), .string (itx (x1.den : Int))] 25) (g3 : Blk w b3 #[.string (itx y1.num), .string (itx (y1.den : Int))] 25) (g4 : Blk w b4 #[.string (itx r.num), .string (itx (r.den : Int))] 25) (hI : Inp x0 y0 x1 y1 r) (hf : fitsP x0 y0 x1 y1 r = false) :
  Calls Tryz.prog 35 #[.pointer (some ⟨b0, 0, none⟩), .pointer (some ⟨b1, 0, none⟩), .pointer (some ⟨b2, 0, none⟩), .pointer (some ⟨b3, 0, none⟩), .pointer (some ⟨b4, 0, none⟩)] w fun e w' => e = .panicked (chain pa false) ∧ Below w.heap.size w w' := by
 have NP := fun W hp hP => pl_new x0 y0 x1 y1 r pa W hp hP hI.h0 hI.h1 hI.h2 hI.h3 hI.h4 hI.hr hI.hx hI.hy
 rw [hf] at NP
 have hh0 : 0 < w.heap.size := World.block_lt_of_cell? _ _ hP
 generalize pkv (Pkt.of x0 y0 x1 y1 r) = PK at *
 clear hI hf
 unfold rcv rv at NP
 simp only [Bool.false_eq_true, if_false] at NP
 generalize itx x0.num = a1 at *
 generalize itx (x0.den : Int) = a2 at *
 generalize itx y0.num = b1 at *
 generalize itx (y0.den : Int) = b2 at *
 generalize itx x1.num = c1 at *
 generalize itx (x1.den : Int) = c2 at *
 generalize itx y1.num = d1 at *
 generalize itx (y1.den : Int) = d2 at *
 generalize itx r.num = r1 at *
 generalize itx (r.den : Int) = r2 at *
 have hB0 : Below w.heap.size w (w.alloc (.cells #[.slice none 0 0, .slice none 0 0] 42)) := below_alloc (Below.refl _ _) _
 have k0 := (Blk.new w #[.slice none 0 0, .slice none 0 0] 42)
 obtain ⟨p0, p1, _, _⟩ := (g0.alloc (.cells #[.slice none 0 0, .slice none 0 0] 42)).two
 obtain ⟨p2, p3, _, _⟩ := (g1.alloc (.cells #[.slice none 0 0, .slice none 0 0] 42)).two
 obtain ⟨p4, p5, _, _⟩ := (g2.alloc (.cells #[.slice none 0 0, .slice none 0 0] 42)).two
 obtain ⟨p6, p7, _, _⟩ := (g3.alloc (.cells #[.slice none 0 0, .slice none 0 0] 42)).two
 obtain ⟨p8, p9, _, _⟩ := (g4.alloc (.cells #[.slice none 0 0, .slice none 0 0] 42)).two
 go_enter Tryz.func35, Tryz.ntmps35
 go_wp2_with (go_at_call 28; refine (NP _ (hp.below hB0) (hP.below hB0 hh0)).mono ?_; clear NP; rintro e w2 ⟨rfl, hb2⟩; have hB2 := below_step hB0 hb2)
 exact ⟨rfl, rfl, hB2⟩
set_option maxHeartbeats 8000000 in
set_option maxRecDepth 100000 in
theorem pl_Reachable_ok (x0 y0 x1 y1 r : Rat) (pa : Addr) (w : World) (hp : Pow w) (hP : Plan w pa) (hI : Inp x0 y0 x1 y1 r) (hf : fitsP x0 y0 x1 y1 r = true) :
  Calls Tryz.prog 14 #[rv x0, rv y0, rv x1, rv y1, rv r] w fun e w' => ∃ v, e = .returned (.tuple #[v, .int .i64 0]) ∧ OwnR w' w.heap.size v (reachR (Pkt.of x0 y0 x1 y1 r)) ∧ Below w.heap.size w w' := by
 have R1 := fun (b0 b1 b2 b3 b4 : Nat) (W : World) hp hP g0 g1 g2 g3 g4 => pl_R1_ok b0 b1 b2 b3 b4 x0 y0 x1 y1 r pa W hp hP g0 g1 g2 g3 g4 hI hf
 have hh0 : 0 < w.heap.size := World.block_lt_of_cell? _ _ hP
 generalize reachR (Pkt.of x0 y0 x1 y1 r) = RG at *
 clear hI hf
 unfold rv at *
 generalize itx x0.num = a1 at *
 generalize itx (x0.den : Int) = a2 at *
 generalize itx y0.num = b1 at *
 generalize itx (y0.den : Int) = b2 at *
 generalize itx x1.num = c1 at *
 generalize itx (x1.den : Int) = c2 at *
 generalize itx y1.num = d1 at *
 generalize itx (y1.den : Int) = d2 at *
 generalize itx r.num = r1 at *
 generalize itx (r.den : Int) = r2 at *
 have hB0 : Below w.heap.size w ((((((w.alloc (.cells #[.string a1, .string a2] 25)).alloc (.cells #[.string b1, .string b2] 25)).alloc (.cells #[.string c1, .string c2] 25)).alloc (.cells #[.string d1, .string d2] 25)).alloc (.cells #[.string r1, .string r2] 25)).alloc (.cells #[.slice none 0 0, .slice none 0 0] 42)) := below_alloc (below_alloc (below_alloc (below_alloc (below_alloc (below_alloc (Below.refl _ _) _) _) _) _) _) _
 have k0 := ((((((Blk.new w #[.string a1, .string a2] 25).alloc (.cells #[.string b1, .string b2] 25)).alloc (.cells #[.string c1, .string c2] 25)).alloc (.cells #[.string d1, .string d2] 25)).alloc (.cells #[.string r1, .string r2] 25)).alloc (.cells #[.slice none 0 0, .slice none 0 0] 42))
 have k1 : Blk ((((((w.alloc (.cells #[.string a1, .string a2] 25)).alloc (.cells #[.string b1, .string b2] 25)).alloc (.cells #[.string c1, .string c2] 25)).alloc (.cells #[.string d1, .string d2] 25)).alloc (.cells #[.string r1, .string r2] 25)).alloc (.cells #[.slice none 0 0, .slice none 0 0] 42)) (w.heap.size + 1) #[.string b1, .string b2] 25 := by
  have := (((((Blk.new (w.alloc (.cells #[.string a1, .string a2] 25)) #[.string b1, .string b2] 25).alloc (.cells #[.string c1, .string c2] 25)).alloc (.cells #[.string d1, .string d2] 25)).alloc (.cells #[.string r1, .string r2] 25)).alloc (.cells #[.slice none 0 0, .slice none 0 0] 42))
  rwa [World.size_alloc] at this
 have k2 : Blk ((((((w.alloc (.cells #[.string a1, .string a2] 25)).alloc (.cells #[.string b1, .string b2] 25)).alloc (.cells #[.string c1, .string c2] 25)).alloc (.cells #[.string d1, .string d2] 25)).alloc (.cells #[.string r1, .string r2] 25)).alloc (.cells #[.slice none 0 0, .slice none 0 0] 42)) (w.heap.size + 2) #[.string c1, .string c2] 25 := by
  have := ((((Blk.new ((w.alloc (.cells #[.string a1, .string a2] 25)).alloc (.cells #[.string b1, .string b2] 25)) #[.string c1, .string c2] 25).alloc (.cells #[.string d1, .string d2] 25)).alloc (.cells #[.string r1, .string r2] 25)).alloc (.cells #[.slice none 0 0, .slice none 0 0] 42))
  rwa [World.size_alloc, World.size_alloc] at this
 have k3 : Blk ((((((w.alloc (.cells #[.string a1, .string a2] 25)).alloc (.cells #[.string b1, .string b2] 25)).alloc (.cells #[.string c1, .string c2] 25)).alloc (.cells #[.string d1, .string d2] 25)).alloc (.cells #[.string r1, .string r2] 25)).alloc (.cells #[.slice none 0 0, .slice none 0 0] 42)) (w.heap.size + 3) #[.string d1, .string d2] 25 := by
  have := (((Blk.new (((w.alloc (.cells #[.string a1, .string a2] 25)).alloc (.cells #[.string b1, .string b2] 25)).alloc (.cells #[.string c1, .string c2] 25)) #[.string d1, .string d2] 25).alloc (.cells #[.string r1, .string r2] 25)).alloc (.cells #[.slice none 0 0, .slice none 0 0] 42))
  rwa [World.size_alloc, World.size_alloc, World.size_alloc] at this
 have k4 : Blk ((((((w.alloc (.cells #[.string a1, .string a2] 25)).alloc (.cells #[.string b1, .string b2] 25)).alloc (.cells #[.string c1, .string c2] 25)).alloc (.cells #[.string d1, .string d2] 25)).alloc (.cells #[.string r1, .string r2] 25)).alloc (.cells #[.slice none 0 0, .slice none 0 0] 42)) (w.heap.size + 4) #[.string r1, .string r2] 25 := by
  have := ((Blk.new ((((w.alloc (.cells #[.string a1, .string a2] 25)).alloc (.cells #[.string b1, .string b2] 25)).alloc (.cells #[.string c1, .string c2] 25)).alloc (.cells #[.string d1, .string d2] 25)) #[.string r1, .string r2] 25).alloc (.cells #[.slice none 0 0, .slice none 0 0] 42))
  rwa [World.size_alloc, World.size_alloc, World.size_alloc, World.size_alloc] at this
 have k5 : Blk ((((((w.alloc (.cells #[.string a1, .string a2] 25)).alloc (.cells #[.string b1, .string b2] 25)).alloc (.cells #[.string c1, .string c2] 25)).alloc (.cells #[.string d1, .string d2] 25)).alloc (.cells #[.string r1, .string r2] 25)).alloc (.cells #[.slice none 0 0, .slice none 0 0] 42)) (w.heap.size + 5) #[.slice none 0 0, .slice none 0 0] 42 := by
  have := (Blk.new (((((w.alloc (.cells #[.string a1, .string a2] 25)).alloc (.cells #[.string b1, .string b2] 25)).alloc (.cells #[.string c1, .string c2] 25)).alloc (.cells #[.string d1, .string d2] 25)).alloc (.cells #[.string r1, .string r2] 25)) #[.slice none 0 0, .slice none 0 0] 42)
  rwa [World.size_alloc, World.size_alloc, World.size_alloc, World.size_alloc, World.size_alloc] at this
 have hh6 : 0 < ((((((w.alloc (.cells #[.string a1, .string a2] 25)).alloc (.cells #[.string b1, .string b2] 25)).alloc (.cells #[.string c1, .string c2] 25)).alloc (.cells #[.string d1, .string d2] 25)).alloc (.cells #[.string r1, .string r2] 25)).alloc (.cells #[.slice none 0 0, .slice none 0 0] 42)).heap.size := by simp
 have CP := cp34_ok 35 #[] #[.pointer (some ⟨w.heap.size, 0, none⟩), .pointer (some ⟨w.heap.size + 1, 0, none⟩), .pointer (some ⟨w.heap.size + 2, 0, none⟩), .pointer (some ⟨w.heap.size + 3, 0, none⟩), .pointer (some ⟨w.heap.size + 4, 0, none⟩)] (fun v W => OwnR W ((((((w.alloc (.cells #[.string a1, .string a2] 25)).alloc (.cells #[.string b1, .string b2] 25)).alloc (.cells #[.string c1, .string c2] 25)).alloc (.cells #[.string d1, .string d2] 25)).alloc (.cells #[.string r1, .string r2] 25)).alloc (.cells #[.slice none 0 0, .slice none 0 0] 42)).heap.size v RG) (fun v W g cs t i u ht hk h => OwnR.set h hk (by rcases ht with rfl | rfl <;> decide) (by rcases ht with rfl | rfl <;> decide) i u) ((((((w.alloc (.cells #[.string a1, .string a2] 25)).alloc (.cells #[.string b1, .string b2] 25)).alloc (.cells #[.string c1, .string c2] 25)).alloc (.cells #[.string d1, .string d2] 25)).alloc (.cells #[.string r1, .string r2] 25)).alloc (.cells #[.slice none 0 0, .slice none 0 0] 42)) (enters_of Tryz.func35 (by kernel_rfl) rfl) (fun W hb => by
  refine (R1 w.heap.size (w.heap.size + 1) (w.heap.size + 2) (w.heap.size + 3) (w.heap.size + 4) W (hp.below (below_step hB0 hb)) (hP.below (below_step hB0 hb) hh0) (k0.below hb) (k1.below hb) (k2.below hb) (k3.below hb) (k4.below hb)).mono ?_
  rintro e w' ⟨A, m, c, B, k, d, rfl, hO, hb2⟩
  exact ⟨A, m, c, B, k, d, rfl, hO.lower (below_size hb), hb2⟩)
 have hmf := mk_fn
 clear R1
 go_enter Tryz.func14, Tryz.ntmps14
 go_wp2_with (go_at_call 34; refine CP.mono ?_; clear CP; rintro e w2 ⟨v, rfl, ⟨xx, yy, rfl, HX, HY⟩, hb2⟩; obtain ⟨XA, xc, ex⟩ := Kd.R_slice HX; obtain ⟨YA, yc, ey⟩ := Kd.R_slice HY; subst ex ey; have hB2 := below_step hB0 hb2; have K5 := k5.below hb2; obtain ⟨r0, r1, q0, q1⟩ := K5.two)
 have hO : OwnR w2 _ (.agg #[.slice XA RG.1.length xc, .slice YA RG.2.length yc]) RG := ⟨_, _, rfl, HX, HY⟩
 have h9 := OwnR.set (OwnR.set hO K5 (by decide) (by decide) 0 (.slice XA RG.1.length xc)) (K5.set 0 _) (by decide) (by decide) 1 (.slice YA RG.2.length yc)
 refine bodyPost_ret (results_ct rfl _ _ (w.heap.size + 5) 42 #[.slice XA RG.1.length xc, .slice YA RG.2.length yc] (0, 0) _ rfl ((K5.set 0 _).set 1 _) Tryz.underlying42 rfl (by kernel_rfl)) rfl ?_
 exact ⟨_, rfl, h9.lower (below_size hB0), below_set (below_set hB2 (by omega)) (by omega)⟩
set_option maxHeartbeats 8000000 in
set_option maxRecDepth 100000 in
theorem pl_Reachable_bad (x0 y0 x1 y1 r : Rat) (pa : Addr) (w : World) (hp : Pow w) (hP : Plan w pa) (hI : Inp x0 y0 x1 y1 r) (hf : fitsP x0 y0 x1 y1 r = false) :
  Calls Tryz.prog 14 #[rv x0, rv y0, rv x1, rv y1, rv r] w fun e w' => e = .returned (.tuple #[.agg #[.slice none 0 0, .slice none 0 0], .int .i64 290]) ∧ Below w.heap.size w w' := by
 have R1 := fun (b0 b1 b2 b3 b4 : Nat) (W : World) hp hP g0 g1 g2 g3 g4 => pl_R1_bad b0 b1 b2 b3 b4 x0 y0 x1 y1 r pa W hp hP g0 g1 g2 g3 g4 hI hf
 have hh0 : 0 < w.heap.size := World.block_lt_of_cell? _ _ hP
 clear hI hf
 unfold rv at *
 generalize itx x0.num = a1 at *
 generalize itx (x0.den : Int) = a2 at *
 generalize itx y0.num = b1 at *
 generalize itx (y0.den : Int) = b2 at *
 generalize itx x1.num = c1 at *
 generalize itx (x1.den : Int) = c2 at *
 generalize itx y1.num = d1 at *
 generalize itx (y1.den : Int) = d2 at *
 generalize itx r.num = r1 at *
 generalize itx (r.den : Int) = r2 at *
 have hB0 : Below w.heap.size w ((((((w.alloc (.cells #[.string a1, .string a2] 25)).alloc (.cells #[.string b1, .string b2] 25)).alloc (.cells #[.string c1, .string c2] 25)).alloc (.cells #[.string d1, .string d2] 25)).alloc (.cells #[.string r1, .string r2] 25)).alloc (.cells #[.slice none 0 0, .slice none 0 0] 42)) := below_alloc (below_alloc (below_alloc (below_alloc (below_alloc (below_alloc (Below.refl _ _) _) _) _) _) _) _
 have k0 := ((((((Blk.new w #[.string a1, .string a2] 25).alloc (.cells #[.string b1, .string b2] 25)).alloc (.cells #[.string c1, .string c2] 25)).alloc (.cells #[.string d1, .string d2] 25)).alloc (.cells #[.string r1, .string r2] 25)).alloc (.cells #[.slice none 0 0, .slice none 0 0] 42))
 have k1 : Blk ((((((w.alloc (.cells #[.string a1, .string a2] 25)).alloc (.cells #[.string b1, .string b2] 25)).alloc (.cells #[.string c1, .string c2] 25)).alloc (.cells #[.string d1, .string d2] 25)).alloc (.cells #[.string r1, .string r2] 25)).alloc (.cells #[.slice none 0 0, .slice none 0 0] 42)) (w.heap.size + 1) #[.string b1, .string b2] 25 := by
  have := (((((Blk.new (w.alloc (.cells #[.string a1, .string a2] 25)) #[.string b1, .string b2] 25).alloc (.cells #[.string c1, .string c2] 25)).alloc (.cells #[.string d1, .string d2] 25)).alloc (.cells #[.string r1, .string r2] 25)).alloc (.cells #[.slice none 0 0, .slice none 0 0] 42))
  rwa [World.size_alloc] at this
 have k2 : Blk ((((((w.alloc (.cells #[.string a1, .string a2] 25)).alloc (.cells #[.string b1, .string b2] 25)).alloc (.cells #[.string c1, .string c2] 25)).alloc (.cells #[.string d1, .string d2] 25)).alloc (.cells #[.string r1, .string r2] 25)).alloc (.cells #[.slice none 0 0, .slice none 0 0] 42)) (w.heap.size + 2) #[.string c1, .string c2] 25 := by
  have := ((((Blk.new ((w.alloc (.cells #[.string a1, .string a2] 25)).alloc (.cells #[.string b1, .string b2] 25)) #[.string c1, .string c2] 25).alloc (.cells #[.string d1, .string d2] 25)).alloc (.cells #[.string r1, .string r2] 25)).alloc (.cells #[.slice none 0 0, .slice none 0 0] 42))
  rwa [World.size_alloc, World.size_alloc] at this
 have k3 : Blk ((((((w.alloc (.cells #[.string a1, .string a2] 25)).alloc (.cells #[.string b1, .string b2] 25)).alloc (.cells #[.string c1, .string c2] 25)).alloc (.cells #[.string d1, .string d2] 25)).alloc (.cells #[.string r1, .string r2] 25)).alloc (.cells #[.slice none 0 0, .slice none 0 0] 42)) (w.heap.size + 3) #[.string d1, .string d2] 25 := by
  have := (((Blk.new (((w.alloc (.cells #[.string a1, .string a2] 25)).alloc (.cells #[.string b1, .string b2] 25)).alloc (.cells #[.string c1, .string c2] 25)) #[.string d1, .string d2] 25).alloc (.cells #[.string r1, .string r2] 25)).alloc (.cells #[.slice none 0 0, .slice none 0 0] 42))
  rwa [World.size_alloc, World.size_alloc, World.size_alloc] at this
 have k4 : Blk ((((((w.alloc (.cells #[.string a1, .string a2] 25)).alloc (.cells #[.string b1, .string b2] 25)).alloc (.cells #[.string c1, .string c2] 25)).alloc (.cells #[.string d1, .string d2] 25)).alloc (.cells #[.string r1, .string r2] 25)).alloc (.cells #[.slice none 0 0, .slice none 0 0] 42)) (w.heap.size + 4) #[.string r1, .string r2] 25 := by
  have := ((Blk.new ((((w.alloc (.cells #[.string a1, .string a2] 25)).alloc (.cells #[.string b1, .string b2] 25)).alloc (.cells #[.string c1, .string c2] 25)).alloc (.cells #[.string d1, .string d2] 25)) #[.string r1, .string r2] 25).alloc (.cells #[.slice none 0 0, .slice none 0 0] 42))
  rwa [World.size_alloc, World.size_alloc, World.size_alloc, World.size_alloc] at this
 have k5 : Blk ((((((w.alloc (.cells #[.string a1, .string a2] 25)).alloc (.cells #[.string b1, .string b2] 25)).alloc (.cells #[.string c1, .string c2] 25)).alloc (.cells #[.string d1, .string d2] 25)).alloc (.cells #[.string r1, .string r2] 25)).alloc (.cells #[.slice none 0 0, .slice none 0 0] 42)) (w.heap.size + 5) #[.slice none 0 0, .slice none 0 0] 42 := by
  have := (Blk.new (((((w.alloc (.cells #[.string a1, .string a2] 25)).alloc (.cells #[.string b1, .string b2] 25)).alloc (.cells #[.string c1, .string c2] 25)).alloc (.cells #[.string d1, .string d2] 25)).alloc (.cells #[.string r1, .string r2] 25)) #[.slice none 0 0, .slice none 0 0] 42)
  rwa [World.size_alloc, World.size_alloc, World.size_alloc, World.size_alloc, World.size_alloc] at this
 have hh6 : 0 < ((((((w.alloc (.cells #[.string a1, .string a2] 25)).alloc (.cells #[.string b1, .string b2] 25)).alloc (.cells #[.string c1, .string c2] 25)).alloc (.cells #[.string d1, .string d2] 25)).alloc (.cells #[.string r1, .string r2] 25)).alloc (.cells #[.slice none 0 0, .slice none 0 0] 42)).heap.size := by simp
 have CP := cp34_bad 35 #[] #[.pointer (some ⟨w.heap.size, 0, none⟩), .pointer (some ⟨w.heap.size + 1, 0, none⟩), .pointer (some ⟨w.heap.size + 2, 0, none⟩), .pointer (some ⟨w.heap.size + 3, 0, none⟩), .pointer (some ⟨w.heap.size + 4, 0, none⟩)] pa ((((((w.alloc (.cells #[.string a1, .string a2] 25)).alloc (.cells #[.string b1, .string b2] 25)).alloc (.cells #[.string c1, .string c2] 25)).alloc (.cells #[.string d1, .string d2] 25)).alloc (.cells #[.string r1, .string r2] 25)).alloc (.cells #[.slice none 0 0, .slice none 0 0] 42)) (hP.below hB0 hh0) hh6 (enters_of Tryz.func35 (by kernel_rfl) rfl) (fun W hb => R1 w.heap.size (w.heap.size + 1) (w.heap.size + 2) (w.heap.size + 3) (w.heap.size + 4) W (hp.below (below_step hB0 hb)) (hP.below (below_step hB0 hb) hh0) (k0.below hb) (k1.below hb) (k2.below hb) (k3.below hb) (k4.below hb))
 have hmf := mk_fn
 clear R1
 go_enter Tryz.func14, Tryz.ntmps14
 go_wp2_with (go_at_call 34; refine CP.mono ?_; clear CP; rintro e w2 ⟨rfl, hb2⟩; have hB2 := below_step hB0 hb2; have K5 := k5.below hb2; obtain ⟨r0, r1, q0, q1⟩ := K5.two)
 refine bodyPost_ret (results_ct rfl _ _ (w.heap.size + 5) 42 #[.slice none 0 0, .slice none 0 0] (0, 0) _ rfl ((K5.set 0 _).set 1 _) Tryz.underlying42 rfl (by kernel_rfl)) rfl ?_
 exact ⟨rfl, below_set (below_set hB2 (by omega)) (by omega)⟩
end Go.Proofs.YtociicfjhgfgpaaGreatDoor

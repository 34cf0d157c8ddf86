/- planner: Reachable: the walks. As UniV: three blocks, four blocks that are laid in any order. planner: the closure that adds a pass: the walk. -/
import Derived.Test.YtociicfjhgfgpaaGreatDoorR35
import Derived.Test.YtociicfjhgfgpaaGreatDoorR34
set_option linter.unusedVariables false
set_option linter.unusedSimpArgs false
set_option maxHeartbeats 8000000
set_option maxRecDepth 100000
namespace Go.Proofs.YtociicfjhgfgpaaGreatDoor
open Go.RowKit Go.Shelf Go.Lib Go.Proofs.YtociicfjhgfgpaaGreatDoorW.PrintWords
structure Inp (x0 y0 x1 y1 r : Rat) : Prop where
 h0 : Sm 40 x0
 h1 : Sm 40 y0
 h2 : Sm 40 x1
 h3 : Sm 40 y1
 h4 : Sm 40 r
 hr : 0 < r
 hx : x0 < x1
 hy : y0 < y1
theorem Inp.sq {x0 y0 x1 y1 r : Rat} (h : Inp x0 y0 x1 y1 r) : SqPk (Pkt.of x0 y0 x1 y1 r) :=
 ⟨(sm_add h.h0 h.h4).le (by decide), (sm_add h.h1 h.h4).le (by decide), (sm_sub h.h2 h.h4).le (by decide), (sm_sub h.h3 h.h4).le (by decide), h.h0.le (by decide), h.h1.le (by decide), h.h2.le (by decide), h.h3.le (by decide), h.h4.le (by decide)⟩
theorem pl_R1_ok (b0 b1 b2 b3 b4 : Nat) (x0 y0 x1 y1 r : Rat) (pa : Addr) (w : World) (hp : Pow w) (hP : Plan w pa) (g0 : Blk w b0 #[.string (itx x0.num), .string (itx (x0.den : Int))] 25) (g1 : Blk w b1 #[.string (itx y0.num), .string (itx (y0.den : Int))] 25) (g2 : Blk w b2 #[.string (itx x1.num), .string (itx (x1.den : Int))] 25) (g3 : Blk w b3 #[.string (itx y1.num), .string (itx (y1.den : Int))] 25) (g4 : Blk w b4 #[.string (itx r.num), .string (itx (r.den : Int))] 25) (hI : Inp x0 y0 x1 y1 r) (hf : fitsP x0 y0 x1 y1 r = true) :
  Calls Tryz.prog 35 #[.pointer (some ⟨b0, 0, none⟩), .pointer (some ⟨b1, 0, none⟩), .pointer (some ⟨b2, 0, none⟩), .pointer (some ⟨b3, 0, none⟩), .pointer (some ⟨b4, 0, none⟩)] w fun e w' => ∃ A m c B k d, e = .returned (.agg #[.slice A m c, .slice B k d]) ∧ OwnR w' w.heap.size (.agg #[.slice A m c, .slice B k d]) (reachR (Pkt.of x0 y0 x1 y1 r)) ∧ Below w.heap.size w w' := by
 have NP := fun W hp hP => pl_new x0 y0 x1 y1 r pa W hp hP hI.h0 hI.h1 hI.h2 hI.h3 hI.h4 hI.hr hI.hx hI.hy
 rw [hf] at NP
 have RE := fun W hp => pl_reach (Pkt.of x0 y0 x1 y1 r) W hp hI.sq hI.h4 hI.hr hI.hx hI.hy
 have hh0 : 0 < w.heap.size := World.block_lt_of_cell? _ _ hP
 generalize pkv (Pkt.of x0 y0 x1 y1 r) = PK at *
 generalize reachR (Pkt.of x0 y0 x1 y1 r) = RG at *
 clear hI hf
 unfold rcv rv at NP
 simp only [if_true] at NP
 generalize itx x0.num = a1 at *
 generalize itx (x0.den : Int) = a2 at *
 generalize itx y0.num = b1 at *
 generalize itx (y0.den : Int) = b2 at *
 generalize itx x1.num = c1 at *
 generalize itx (x1.den : Int) = c2 at *
 generalize itx y1.num = d1 at *
 generalize itx (y1.den : Int) = d2 at *
 generalize itx r.num = r1 at *
 generalize itx (r.den : Int) = r2 at *
 obtain ⟨hB0, k0⟩ := news1 w #[.slice none 0 0, .slice none 0 0] 42
 obtain ⟨p0, p1, _, _⟩ := (g0.alloc (.cells #[.slice none 0 0, .slice none 0 0] 42)).two
 obtain ⟨p2, p3, _, _⟩ := (g1.alloc (.cells #[.slice none 0 0, .slice none 0 0] 42)).two
 obtain ⟨p4, p5, _, _⟩ := (g2.alloc (.cells #[.slice none 0 0, .slice none 0 0] 42)).two
 obtain ⟨p6, p7, _, _⟩ := (g3.alloc (.cells #[.slice none 0 0, .slice none 0 0] 42)).two
 obtain ⟨p8, p9, _, _⟩ := (g4.alloc (.cells #[.slice none 0 0, .slice none 0 0] 42)).two
 go_enter Tryz.func35, Tryz.ntmps35
 go_wp2_with (first | (go_at_call 28; refine (NP _ (hp.below hB0) (hP.below hB0 hh0)).mono ?_; clear NP; rintro e w2 ⟨rfl, hb2⟩; have hB2 := bZs hB0 hb2) | (go_at_call 36; refine (RE _ (hp.below hB2)).mono ?_; clear RE; rintro e w3 ⟨v, rfl, ⟨xx, yy, rfl, HX, HY⟩, hb3⟩; obtain ⟨XA, xc, ex⟩ := Kd.R_slice HX; obtain ⟨YA, yc, ey⟩ := Kd.R_slice HY; subst ex ey; have hB3 := bZs hB2 hb3; have K3 := (k0.below hb2).below hb3; obtain ⟨r0, r1, q0, q1⟩ := K3.two))
 have hO : OwnR w3 w2.heap.size (.agg #[.slice XA RG.1.length xc, .slice YA RG.2.length yc]) RG := ⟨_, _, rfl, HX, HY⟩
 have h9 := OwnR.set (OwnR.set (hO.lower (bZz hB2)) K3 (by decide) (by decide) 0 (.slice XA RG.1.length xc)) (K3.set 0 _) (by decide) (by decide) 1 (.slice YA RG.2.length yc)
 refine bodyPost_ret (rZs rfl (.cell w.heap.size 42 #[.slice XA RG.1.length xc, .slice YA RG.2.length yc] (0, 0) _ rfl ((K3.set 0 _).set 1 _) Tryz.underlying42 rfl (by kernel_rfl) .nil)) rfl ?_
 exact ⟨_, _, _, _, _, _, rfl, h9, bZe (bZe hB3 (Nat.le_refl _)) (Nat.le_refl _)⟩
theorem pl_R1_bad (b0 b1 b2 b3 b4 : Nat) (x0 y0 x1 y1 r : Rat) (pa : Addr) (w : World) (hp : Pow w) (hP : Plan w pa) (g0 : Blk w b0 #[.string (itx x0.num), .string (itx (x0.den : Int))] 25) (g1 : Blk w b1 #[.string (itx y0.num), .string (itx (y0.den : Int))] 25) (g2 : Blk w b2 #[.string (itx x1.num), .string (itx (x1.den : Int))] 25) (g3 : Blk w b3 #[.string (itx y1.num), .string (itx (y1.den : Int))] 25) (g4 : Blk w b4 #[.string (itx r.num), .string (itx (r.den : Int))] 25) (hI : Inp x0 y0 x1 y1 r) (hf : fitsP x0 y0 x1 y1 r = false) :
  Calls Tryz.prog 35 #[.pointer (some ⟨b0, 0, none⟩), .pointer (some ⟨b1, 0, none⟩), .pointer (some ⟨b2, 0, none⟩), .pointer (some ⟨b3, 0, none⟩), .pointer (some ⟨b4, 0, none⟩)] w fun e w' => e = .panicked (chain pa false) ∧ Below w.heap.size w w' := by
 have NP := fun W hp hP => pl_new x0 y0 x1 y1 r pa W hp hP hI.h0 hI.h1 hI.h2 hI.h3 hI.h4 hI.hr hI.hx hI.hy
 rw [hf] at NP
 have hh0 : 0 < w.heap.size := World.block_lt_of_cell? _ _ hP
 generalize pkv (Pkt.of x0 y0 x1 y1 r) = PK at *
 clear hI hf
 unfold rcv rv at NP
 simp only [Bool.false_eq_true, if_false] at NP
 generalize itx x0.num = a1 at *
 generalize itx (x0.den : Int) = a2 at *
 generalize itx y0.num = b1 at *
 generalize itx (y0.den : Int) = b2 at *
 generalize itx x1.num = c1 at *
 generalize itx (x1.den : Int) = c2 at *
 generalize itx y1.num = d1 at *
 generalize itx (y1.den : Int) = d2 at *
 generalize itx r.num = r1 at *
 generalize itx (r.den : Int) = r2 at *
 obtain ⟨hB0, k0⟩ := news1 w #[.slice none 0 0, .slice none 0 0] 42
 obtain ⟨p0, p1, _, _⟩ := (g0.alloc (.cells #[.slice none 0 0, .slice none 0 0] 42)).two
 obtain ⟨p2, p3, _, _⟩ := (g1.alloc (.cells #[.slice none 0 0, .slice none 0 0] 42)).two
 obtain ⟨p4, p5, _, _⟩ := (g2.alloc (.cells #[.slice none 0 0, .slice none 0 0] 42)).two
 obtain ⟨p6, p7, _, _⟩ := (g3.alloc (.cells #[.slice none 0 0, .slice none 0 0] 42)).two
 obtain ⟨p8, p9, _, _⟩ := (g4.alloc (.cells #[.slice none 0 0, .slice none 0 0] 42)).two
 go_enter Tryz.func35, Tryz.ntmps35
 go_wp2_with (go_at_call 28; refine (NP _ (hp.below hB0) (hP.below hB0 hh0)).mono ?_; clear NP; rintro e w2 ⟨rfl, hb2⟩; have hB2 := bZs hB0 hb2)
 exact ⟨rfl, rfl, hB2⟩
theorem pl_Reachable_ok (x0 y0 x1 y1 r : Rat) (pa : Addr) (w : World) (hp : Pow w) (hP : Plan w pa) (hI : Inp x0 y0 x1 y1 r) (hf : fitsP x0 y0 x1 y1 r = true) :
  Calls Tryz.prog 14 #[rv x0, rv y0, rv x1, rv y1, rv r] w fun e w' => ∃ v, e = .returned (.tuple #[v, .int .i64 0]) ∧ OwnR w' w.heap.size v (reachR (Pkt.of x0 y0 x1 y1 r)) ∧ Below w.heap.size w w' := by
 have R1 := fun (b0 b1 b2 b3 b4 : Nat) (W : World) hp hP g0 g1 g2 g3 g4 => pl_R1_ok b0 b1 b2 b3 b4 x0 y0 x1 y1 r pa W hp hP g0 g1 g2 g3 g4 hI hf
 have hh0 : 0 < w.heap.size := World.block_lt_of_cell? _ _ hP
 generalize reachR (Pkt.of x0 y0 x1 y1 r) = RG at *
 clear hI hf
 unfold rv at *
 generalize itx x0.num = a1 at *
 generalize itx (x0.den : Int) = a2 at *
 generalize itx y0.num = b1 at *
 generalize itx (y0.den : Int) = b2 at *
 generalize itx x1.num = c1 at *
 generalize itx (x1.den : Int) = c2 at *
 generalize itx y1.num = d1 at *
 generalize itx (y1.den : Int) = d2 at *
 generalize itx r.num = r1 at *
 generalize itx (r.den : Int) = r2 at *
 obtain ⟨hB0, k0, k1, k2, k3, k4, k5⟩ := news6 w #[.string a1, .string a2] 25 #[.string b1, .string b2] 25 #[.string c1, .string c2] 25 #[.string d1, .string d2] 25 #[.string r1, .string r2] 25 #[.slice none 0 0, .slice none 0 0] 42
 have hh6 : 0 < ((((((w.alloc (.cells #[.string a1, .string a2] 25)).alloc (.cells #[.string b1, .string b2] 25)).alloc (.cells #[.string c1, .string c2] 25)).alloc (.cells #[.string d1, .string d2] 25)).alloc (.cells #[.string r1, .string r2] 25)).alloc (.cells #[.slice none 0 0, .slice none 0 0] 42)).heap.size := by simp
 have CP := cp34_ok 35 #[] #[.pointer (some ⟨w.heap.size, 0, none⟩), .pointer (some ⟨w.heap.size + 1, 0, none⟩), .pointer (some ⟨w.heap.size + 2, 0, none⟩), .pointer (some ⟨w.heap.size + 3, 0, none⟩), .pointer (some ⟨w.heap.size + 4, 0, none⟩)] (fun v W => OwnR W ((((((w.alloc (.cells #[.string a1, .string a2] 25)).alloc (.cells #[.string b1, .string b2] 25)).alloc (.cells #[.string c1, .string c2] 25)).alloc (.cells #[.string d1, .string d2] 25)).alloc (.cells #[.string r1, .string r2] 25)).alloc (.cells #[.slice none 0 0, .slice none 0 0] 42)).heap.size v RG) (fun v W g cs t i u ht hk h => OwnR.set h hk (by rcases ht with rfl | rfl <;> decide) (by rcases ht with rfl | rfl <;> decide) i u) ((((((w.alloc (.cells #[.string a1, .string a2] 25)).alloc (.cells #[.string b1, .string b2] 25)).alloc (.cells #[.string c1, .string c2] 25)).alloc (.cells #[.string d1, .string d2] 25)).alloc (.cells #[.string r1, .string r2] 25)).alloc (.cells #[.slice none 0 0, .slice none 0 0] 42)) (enters_of Tryz.func35 (by kernel_rfl) rfl) (fun W hb => by
  refine (R1 w.heap.size (w.heap.size + 1) (w.heap.size + 2) (w.heap.size + 3) (w.heap.size + 4) W (hp.below (bZs hB0 hb)) (hP.below (bZs hB0 hb) hh0) (k0.below hb) (k1.below hb) (k2.below hb) (k3.below hb) (k4.below hb)).mono ?_
  rintro e w' ⟨A, m, c, B, k, d, rfl, hO, hb2⟩
  exact ⟨A, m, c, B, k, d, rfl, hO.lower (bZz hb), hb2⟩)
 have hmf := mk_fn
 clear R1
 go_enter Tryz.func14, Tryz.ntmps14
 go_wp2_with (go_at_call 34; refine CP.mono ?_; clear CP; rintro e w2 ⟨v, rfl, ⟨xx, yy, rfl, HX, HY⟩, hb2⟩; obtain ⟨XA, xc, ex⟩ := Kd.R_slice HX; obtain ⟨YA, yc, ey⟩ := Kd.R_slice HY; subst ex ey; have hB2 := bZs hB0 hb2; have K5 := k5.below hb2; obtain ⟨r0, r1, q0, q1⟩ := K5.two)
 have hO : OwnR w2 _ (.agg #[.slice XA RG.1.length xc, .slice YA RG.2.length yc]) RG := ⟨_, _, rfl, HX, HY⟩
 have h9 := OwnR.set (OwnR.set hO K5 (by decide) (by decide) 0 (.slice XA RG.1.length xc)) (K5.set 0 _) (by decide) (by decide) 1 (.slice YA RG.2.length yc)
 refine bodyPost_ret (results_ct rfl _ _ (w.heap.size + 5) 42 #[.slice XA RG.1.length xc, .slice YA RG.2.length yc] (0, 0) _ rfl ((K5.set 0 _).set 1 _) Tryz.underlying42 rfl (by kernel_rfl)) rfl ?_
 exact ⟨_, rfl, h9.lower (bZz hB0), bZe (bZe hB2 (by omega)) (by omega)⟩
theorem pl_Reachable_bad (x0 y0 x1 y1 r : Rat) (pa : Addr) (w : World) (hp : Pow w) (hP : Plan w pa) (hI : Inp x0 y0 x1 y1 r) (hf : fitsP x0 y0 x1 y1 r = false) :
  Calls Tryz.prog 14 #[rv x0, rv y0, rv x1, rv y1, rv r] w fun e w' => e = .returned (.tuple #[.agg #[.slice none 0 0, .slice none 0 0], .int .i64 290]) ∧ Below w.heap.size w w' := by
 have R1 := fun (b0 b1 b2 b3 b4 : Nat) (W : World) hp hP g0 g1 g2 g3 g4 => pl_R1_bad b0 b1 b2 b3 b4 x0 y0 x1 y1 r pa W hp hP g0 g1 g2 g3 g4 hI hf
 have hh0 : 0 < w.heap.size := World.block_lt_of_cell? _ _ hP
 clear hI hf
 unfold rv at *
 generalize itx x0.num = a1 at *
 generalize itx (x0.den : Int) = a2 at *
 generalize itx y0.num = b1 at *
 generalize itx (y0.den : Int) = b2 at *
 generalize itx x1.num = c1 at *
 generalize itx (x1.den : Int) = c2 at *
 generalize itx y1.num = d1 at *
 generalize itx (y1.den : Int) = d2 at *
 generalize itx r.num = r1 at *
 generalize itx (r.den : Int) = r2 at *
 obtain ⟨hB0, k0, k1, k2, k3, k4, k5⟩ := news6 w #[.string a1, .string a2] 25 #[.string b1, .string b2] 25 #[.string c1, .string c2] 25 #[.string d1, .string d2] 25 #[.string r1, .string r2] 25 #[.slice none 0 0, .slice none 0 0] 42
 have hh6 : 0 < ((((((w.alloc (.cells #[.string a1, .string a2] 25)).alloc (.cells #[.string b1, .string b2] 25)).alloc (.cells #[.string c1, .string c2] 25)).alloc (.cells #[.string d1, .string d2] 25)).alloc (.cells #[.string r1, .string r2] 25)).alloc (.cells #[.slice none 0 0, .slice none 0 0] 42)).heap.size := by simp
 have CP := cp34_bad 35 #[] #[.pointer (some ⟨w.heap.size, 0, none⟩), .pointer (some ⟨w.heap.size + 1, 0, none⟩), .pointer (some ⟨w.heap.size + 2, 0, none⟩), .pointer (some ⟨w.heap.size + 3, 0, none⟩), .pointer (some ⟨w.heap.size + 4, 0, none⟩)] pa ((((((w.alloc (.cells #[.string a1, .string a2] 25)).alloc (.cells #[.string b1, .string b2] 25)).alloc (.cells #[.string c1, .string c2] 25)).alloc (.cells #[.string d1, .string d2] 25)).alloc (.cells #[.string r1, .string r2] 25)).alloc (.cells #[.slice none 0 0, .slice none 0 0] 42)) (hP.below hB0 hh0) hh6 (enters_of Tryz.func35 (by kernel_rfl) rfl) (fun W hb => R1 w.heap.size (w.heap.size + 1) (w.heap.size + 2) (w.heap.size + 3) (w.heap.size + 4) W (hp.below (bZs hB0 hb)) (hP.below (bZs hB0 hb) hh0) (k0.below hb) (k1.below hb) (k2.below hb) (k3.below hb) (k4.below hb))
 have hmf := mk_fn
 clear R1
 go_enter Tryz.func14, Tryz.ntmps14
 go_wp2_with (go_at_call 34; refine CP.mono ?_; clear CP; rintro e w2 ⟨rfl, hb2⟩; have hB2 := bZs hB0 hb2; have K5 := k5.below hb2; obtain ⟨r0, r1, q0, q1⟩ := K5.two)
 refine bodyPost_ret (results_ct rfl _ _ (w.heap.size + 5) 42 #[.slice none 0 0, .slice none 0 0] (0, 0) _ rfl ((K5.set 0 _).set 1 _) Tryz.underlying42 rfl (by kernel_rfl)) rfl ?_
 exact ⟨rfl, bZe (bZe hB2 (by omega)) (by omega)⟩
end Go.Proofs.YtociicfjhgfgpaaGreatDoor
namespace Go.Proofs.YtociicfjhgfgpaaGreatDoor
open Go Go.RowKit Go.Proofs.YtociicfjhgfgpaaGreatDoorW.PrintWords
variable {P : Program} {ops : Array Oper} {Q : Exit → Act → World → Prop} {md : Region.Mode} {ex : Nat → Bool} {C0 : World → Prop}
theorem blk_fresh {C : World → Prop} {g g2 : Nat} {cs : Array Value} {t : TypeId} (h : ∃ w, (C w ∧ Blk w g cs t) ∧ g2 = w.heap.size) : (∃ w, C w ∧ g2 = w.heap.size) ∧ g ≠ g2 := by
 obtain ⟨w, ⟨hC, hb⟩, rfl⟩ := h
 exact ⟨⟨w, hC, rfl⟩, Nat.ne_of_lt hb.lt⟩
theorem YieldsN.put {o o2 : Oper} {fv : Nat → Value} {cs : Array Value} {t : TypeId} {a : Act} (hy : YieldsN P ops o fv cs t a) (hs : ∀ cs b, o.op ≠ .select cs b) (hap : o2.apart ops o = true) (v : Value) : YieldsN P ops o fv cs t (a.put o2.dst v) := by
 obtain ⟨p1, p2, p3⟩ := Oper.apart_spec hap
 exact hy.of_same (execOp_put o hs a o2.dst v p1) (wanted_put o a o2.dst v p1)
theorem wpV_n2 {C : World → Prop} {i1 i2 : Nat} {o1 o2 : Oper} {f1 f2 : Nat → Value} {c1 c2 : Array Value} {t1 t2 : TypeId} {fuel : Nat} {listed : Array Bool} {a : Act}
  (hs : Region.noSelect ops = true) (h1 : ops[i1]? = some o1) (h2 : ops[i2]? = some o2)
  (r0 : Region.ready md ops listed = [i1, i2]) (r1 : Region.ready md ops (listed.setIfInBounds i1 true) = [i2]) (r2 : Region.ready md ops (listed.setIfInBounds i2 true) = [i1])
  (p12 : o1.apart ops o2 = true) (q12 : i1 ≠ i2) (p21 : o2.apart ops o1 = true) (q21 : i2 ≠ i1)
  (y1 : YieldsN P ops o1 f1 c1 t1 a) (y2 : YieldsN P ops o2 f2 c2 t2 a)
  (h : ∀ g1 g2, (∃ w, C w ∧ g1 = w.heap.size) → (∃ w, C w ∧ g2 = w.heap.size) → g1 ≠ g2 → wpV C0 P md ops Q ex fuel (fun W => ((C W ∧ Blk W g1 c1 t1) ∧ Blk W g2 c2 t2)) ((listed.setIfInBounds i1 true).setIfInBounds i2 true) ((a.put o1.dst (f1 g1)).put o2.dst (f2 g2))) : wpV C0 P md ops Q ex (fuel + 2) C listed a := by
 have s1 := fun cs b => Region.noSelect_spec hs i1 o1 cs b h1
 have s2 := fun cs b => Region.noSelect_spec hs i2 o2 cs b h2
 refine ⟨fun h0 => (by rw [r0] at h0; cases h0), fun j hj => ?_⟩
 rw [r0] at hj
 simp only [List.mem_cons, List.not_mem_nil, or_false] at hj
 rcases hj with rfl | rfl
 ·refine .inr (.inr (.inl ⟨o1, f1, c1, t1, h1, y1, fun g1 e1 => ?_⟩))
  refine ⟨fun h0 => (by rw [r1] at h0; cases h0), fun x hx => ?_⟩
  rw [r1] at hx
  simp only [List.mem_cons, List.not_mem_nil, or_false] at hx
  subst hx
  refine .inr (.inr (.inl ⟨o2, f2, c2, t2, h2, y2.put s2 p12 _, fun g2 e2' => ?_⟩))
  obtain ⟨e2, d12⟩ := blk_fresh e2'
  have H := h g1 g2 e1 e2 d12
  exact H
 ·refine .inr (.inr (.inl ⟨o2, f2, c2, t2, h2, y2, fun g2 e2 => ?_⟩))
  refine ⟨fun h0 => (by rw [r2] at h0; cases h0), fun x hx => ?_⟩
  rw [r2] at hx
  simp only [List.mem_cons, List.not_mem_nil, or_false] at hx
  subst hx
  refine .inr (.inr (.inl ⟨o1, f1, c1, t1, h1, y1.put s1 p21 _, fun g1 e1' => ?_⟩))
  obtain ⟨e1, d21⟩ := blk_fresh e1'
  have H := h g1 g2 e1 e2 (Ne.symm d21)
  rw [Array.setIfInBounds_comm (xs := listed) _ _ q12, Act.put_comm a (f1 g1) (f2 g2) (Oper.apart_spec p12).2.1] at H
  exact wpV_weak _ _ _ (fun W hW => ⟨⟨hW.1.1, hW.2⟩, hW.1.2⟩) H
theorem wpV_n3 {C : World → Prop} {i1 i2 i3 : Nat} {o1 o2 o3 : Oper} {f1 f2 f3 : Nat → Value} {c1 c2 c3 : Array Value} {t1 t2 t3 : TypeId} {fuel : Nat} {listed : Array Bool} {a : Act}
  (hs : Region.noSelect ops = true) (h1 : ops[i1]? = some o1) (h2 : ops[i2]? = some o2) (h3 : ops[i3]? = some o3)
  (r0 : Region.ready md ops listed = [i1, i2, i3]) (r1 : Region.ready md ops (listed.setIfInBounds i1 true) = [i2, i3]) (r2 : Region.ready md ops (listed.setIfInBounds i2 true) = [i1, i3]) (r3 : Region.ready md ops (listed.setIfInBounds i3 true) = [i1, i2]) (r12 : Region.ready md ops ((listed.setIfInBounds i1 true).setIfInBounds i2 true) = [i3]) (r13 : Region.ready md ops ((listed.setIfInBounds i1 true).setIfInBounds i3 true) = [i2]) (r21 : Region.ready md ops ((listed.setIfInBounds i2 true).setIfInBounds i1 true) = [i3]) (r23 : Region.ready md ops ((listed.setIfInBounds i2 true).setIfInBounds i3 true) = [i1]) (r31 : Region.ready md ops ((listed.setIfInBounds i3 true).setIfInBounds i1 true) = [i2]) (r32 : Region.ready md ops ((listed.setIfInBounds i3 true).setIfInBounds i2 true) = [i1])
  (p12 : o1.apart ops o2 = true) (q12 : i1 ≠ i2) (p13 : o1.apart ops o3 = true) (q13 : i1 ≠ i3) (p21 : o2.apart ops o1 = true) (q21 : i2 ≠ i1) (p23 : o2.apart ops o3 = true) (q23 : i2 ≠ i3) (p31 : o3.apart ops o1 = true) (q31 : i3 ≠ i1) (p32 : o3.apart ops o2 = true) (q32 : i3 ≠ i2)
  (y1 : YieldsN P ops o1 f1 c1 t1 a) (y2 : YieldsN P ops o2 f2 c2 t2 a) (y3 : YieldsN P ops o3 f3 c3 t3 a)
  (h : ∀ g1 g2 g3, (∃ w, C w ∧ g1 = w.heap.size) → (∃ w, C w ∧ g2 = w.heap.size) → (∃ w, C w ∧ g3 = w.heap.size) → g1 ≠ g2 → g1 ≠ g3 → g2 ≠ g3 → wpV C0 P md ops Q ex fuel (fun W => (((C W ∧ Blk W g1 c1 t1) ∧ Blk W g2 c2 t2) ∧ Blk W g3 c3 t3)) (((listed.setIfInBounds i1 true).setIfInBounds i2 true).setIfInBounds i3 true) (((a.put o1.dst (f1 g1)).put o2.dst (f2 g2)).put o3.dst (f3 g3))) : wpV C0 P md ops Q ex (fuel + 3) C listed a := by
 have s1 := fun cs b => Region.noSelect_spec hs i1 o1 cs b h1
 have s2 := fun cs b => Region.noSelect_spec hs i2 o2 cs b h2
 have s3 := fun cs b => Region.noSelect_spec hs i3 o3 cs b h3
 refine ⟨fun h0 => (by rw [r0] at h0; cases h0), fun j hj => ?_⟩
 rw [r0] at hj
 simp only [List.mem_cons, List.not_mem_nil, or_false] at hj
 rcases hj with rfl | rfl | rfl
 ·refine .inr (.inr (.inl ⟨o1, f1, c1, t1, h1, y1, fun g1 e1 => ?_⟩))
  refine wpV_n2 hs h2 h3 r1 r12 r13 p23 q23 p32 q32 (y2.put s2 p12 _) (y3.put s3 p13 _) ?_
  intro g2 g3 e2' e3' d23
  obtain ⟨e2, d12⟩ := blk_fresh e2'
  obtain ⟨e3, d13⟩ := blk_fresh e3'
  have H := h g1 g2 g3 e1 e2 e3 d12 d13 d23
  exact H
 ·refine .inr (.inr (.inl ⟨o2, f2, c2, t2, h2, y2, fun g2 e2 => ?_⟩))
  refine wpV_n2 hs h1 h3 r2 r21 r23 p13 q13 p31 q31 (y1.put s1 p21 _) (y3.put s3 p23 _) ?_
  intro g1 g3 e1' e3' d13
  obtain ⟨e1, d21⟩ := blk_fresh e1'
  obtain ⟨e3, d23⟩ := blk_fresh e3'
  have H := h g1 g2 g3 e1 e2 e3 (Ne.symm d21) d13 d23
  rw [Array.setIfInBounds_comm (xs := listed) _ _ q12, Act.put_comm a (f1 g1) (f2 g2) (Oper.apart_spec p12).2.1] at H
  exact wpV_weak _ _ _ (fun W hW => ⟨⟨⟨hW.1.1.1, hW.1.2⟩, hW.1.1.2⟩, hW.2⟩) H
 ·refine .inr (.inr (.inl ⟨o3, f3, c3, t3, h3, y3, fun g3 e3 => ?_⟩))
  refine wpV_n2 hs h1 h2 r3 r31 r32 p12 q12 p21 q21 (y1.put s1 p31 _) (y2.put s2 p32 _) ?_
  intro g1 g2 e1' e2' d12
  obtain ⟨e1, d31⟩ := blk_fresh e1'
  obtain ⟨e2, d32⟩ := blk_fresh e2'
  have H := h g1 g2 g3 e1 e2 e3 d12 (Ne.symm d31) (Ne.symm d32)
  rw [Array.setIfInBounds_comm (xs := (listed.setIfInBounds i1 true)) _ _ q23, Act.put_comm (a.put o1.dst (f1 g1)) (f2 g2) (f3 g3) (Oper.apart_spec p23).2.1] at H
  rw [Array.setIfInBounds_comm (xs := listed) _ _ q13, Act.put_comm a (f1 g1) (f3 g3) (Oper.apart_spec p13).2.1] at H
  exact wpV_weak _ _ _ (fun W hW => ⟨⟨⟨hW.1.1.1, hW.1.2⟩, hW.2⟩, hW.1.1.2⟩) H
theorem wpV_n4 {C : World → Prop} {i1 i2 i3 i4 : Nat} {o1 o2 o3 o4 : Oper} {f1 f2 f3 f4 : Nat → Value} {c1 c2 c3 c4 : Array Value} {t1 t2 t3 t4 : TypeId} {fuel : Nat} {listed : Array Bool} {a : Act}
  (hs : Region.noSelect ops = true) (h1 : ops[i1]? = some o1) (h2 : ops[i2]? = some o2) (h3 : ops[i3]? = some o3) (h4 : ops[i4]? = some o4)
  (r0 : Region.ready md ops listed = [i1, i2, i3, i4]) (r1 : Region.ready md ops (listed.setIfInBounds i1 true) = [i2, i3, i4]) (r2 : Region.ready md ops (listed.setIfInBounds i2 true) = [i1, i3, i4]) (r3 : Region.ready md ops (listed.setIfInBounds i3 true) = [i1, i2, i4]) (r4 : Region.ready md ops (listed.setIfInBounds i4 true) = [i1, i2, i3]) (r12 : Region.ready md ops ((listed.setIfInBounds i1 true).setIfInBounds i2 true) = [i3, i4]) (r13 : Region.ready md ops ((listed.setIfInBounds i1 true).setIfInBounds i3 true) = [i2, i4]) (r14 : Region.ready md ops ((listed.setIfInBounds i1 true).setIfInBounds i4 true) = [i2, i3]) (r21 : Region.ready md ops ((listed.setIfInBounds i2 true).setIfInBounds i1 true) = [i3, i4]) (r23 : Region.ready md ops ((listed.setIfInBounds i2 true).setIfInBounds i3 true) = [i1, i4]) (r24 : Region.ready md ops ((listed.setIfInBounds i2 true).setIfInBounds i4 true) = [i1, i3]) (r31 : Region.ready md ops ((listed.setIfInBounds i3 true).setIfInBounds i1 true) = [i2, i4]) (r32 : Region.ready md ops ((listed.setIfInBounds i3 true).setIfInBounds i2 true) = [i1, i4]) (r34 : Region.ready md ops ((listed.setIfInBounds i3 true).setIfInBounds i4 true) = [i1, i2]) (r41 : Region.ready md ops ((listed.setIfInBounds i4 true).setIfInBounds i1 true) = [i2, i3]) (r42 : Region.ready md ops ((listed.setIfInBounds i4 true).setIfInBounds i2 true) = [i1, i3]) (r43 : Region.ready md ops ((listed.setIfInBounds i4 true).setIfInBounds i3 true) = [i1, i2]) (r123 : Region.ready md ops (((listed.setIfInBounds i1 true).setIfInBounds i2 true).setIfInBounds i3 true) = [i4]) (r124 : Region.ready md ops (((listed.setIfInBounds i1 true).setIfInBounds i2 true).setIfInBounds i4 true) = [i3]) (r132 : Region.ready md ops (((listed.setIfInBounds i1 true).setIfInBounds i3 true).setIfInBounds i2 true) = [i4]) (r134 : Region.ready md ops (((listed.setIfInBounds i1 true).setIfInBounds i3 true).setIfInBounds i4 true) = [i2]) (r142 : Region.ready md ops (((listed.setIfInBounds i1 true).setIfInBounds i4 true).setIfInBounds i2 true) = [i3]) (r143 : Region.ready md ops (((listed.setIfInBounds i1 true).setIfInBounds i4 true).setIfInBounds i3 true) = [i2]) (r213 : Region.ready md ops (((listed.setIfInBounds i2 true).setIfInBounds i1 true).setIfInBounds i3 true) = [i4]) (r214 : Region.ready md ops (((listed.setIfInBounds i2 true).setIfInBounds i1 true).setIfInBounds i4 true) = [i3]) (r231 : Region.ready md ops (((listed.setIfInBounds i2 true).setIfInBounds i3 true).setIfInBounds i1 true) = [i4]) (r234 : Region.ready md ops (((listed.setIfInBounds i2 true).setIfInBounds i3 true).setIfInBounds i4 true) = [i1]) (r241 : Region.ready md ops (((listed.setIfInBounds i2 true).setIfInBounds i4 true).setIfInBounds i1 true) = [i3]) (r243 : Region.ready md ops (((listed.setIfInBounds i2 true).setIfInBounds i4 true).setIfInBounds i3 true) = [i1]) (r312 : Region.ready md ops (((listed.setIfInBounds i3 true).setIfInBounds i1 true).setIfInBounds i2 true) = [i4]) (r314 : Region.ready md ops (((listed.setIfInBounds i3 true).setIfInBounds i1 true).setIfInBounds i4 true) = [i2]) (r321 : Region.ready md ops (((listed.setIfInBounds i3 true).setIfInBounds i2 true).setIfInBounds i1 true) = [i4]) (r324 : Region.ready md ops (((listed.setIfInBounds i3 true).setIfInBounds i2 true).setIfInBounds i4 true) = [i1]) (r341 : Region.ready md ops (((listed.setIfInBounds i3 true).setIfInBounds i4 true).setIfInBounds i1 true) = [i2]) (r342 : Region.ready md ops (((listed.setIfInBounds i3 true).setIfInBounds i4 true).setIfInBounds i2 true) = [i1]) (r412 : Region.ready md ops (((listed.setIfInBounds i4 true).setIfInBounds i1 true).setIfInBounds i2 true) = [i3]) (r413 : Region.ready md ops (((listed.setIfInBounds i4 true).setIfInBounds i1 true).setIfInBounds i3 true) = [i2]) (r421 : Region.ready md ops (((listed.setIfInBounds i4 true).setIfInBounds i2 true).setIfInBounds i1 true) = [i3]) (r423 : Region.ready md ops (((listed.setIfInBounds i4 true).setIfInBounds i2 true).setIfInBounds i3 true) = [i1]) (r431 : Region.ready md ops (((listed.setIfInBounds i4 true).setIfInBounds i3 true).setIfInBounds i1 true) = [i2]) (r432 : Region.ready md ops (((listed.setIfInBounds i4 true).setIfInBounds i3 true).setIfInBounds i2 true) = [i1])
  (p12 : o1.apart ops o2 = true) (q12 : i1 ≠ i2) (p13 : o1.apart ops o3 = true) (q13 : i1 ≠ i3) (p14 : o1.apart ops o4 = true) (q14 : i1 ≠ i4) (p21 : o2.apart ops o1 = true) (q21 : i2 ≠ i1) (p23 : o2.apart ops o3 = true) (q23 : i2 ≠ i3) (p24 : o2.apart ops o4 = true) (q24 : i2 ≠ i4) (p31 : o3.apart ops o1 = true) (q31 : i3 ≠ i1) (p32 : o3.apart ops o2 = true) (q32 : i3 ≠ i2) (p34 : o3.apart ops o4 = true) (q34 : i3 ≠ i4) (p41 : o4.apart ops o1 = true) (q41 : i4 ≠ i1) (p42 : o4.apart ops o2 = true) (q42 : i4 ≠ i2) (p43 : o4.apart ops o3 = true) (q43 : i4 ≠ i3)
  (y1 : YieldsN P ops o1 f1 c1 t1 a) (y2 : YieldsN P ops o2 f2 c2 t2 a) (y3 : YieldsN P ops o3 f3 c3 t3 a) (y4 : YieldsN P ops o4 f4 c4 t4 a)
  (h : ∀ g1 g2 g3 g4, (∃ w, C w ∧ g1 = w.heap.size) → (∃ w, C w ∧ g2 = w.heap.size) → (∃ w, C w ∧ g3 = w.heap.size) → (∃ w, C w ∧ g4 = w.heap.size) → g1 ≠ g2 → g1 ≠ g3 → g1 ≠ g4 → g2 ≠ g3 → g2 ≠ g4 → g3 ≠ g4 → wpV C0 P md ops Q ex fuel (fun W => ((((C W ∧ Blk W g1 c1 t1) ∧ Blk W g2 c2 t2) ∧ Blk W g3 c3 t3) ∧ Blk W g4 c4 t4)) ((((listed.setIfInBounds i1 true).setIfInBounds i2 true).setIfInBounds i3 true).setIfInBounds i4 true) ((((a.put o1.dst (f1 g1)).put o2.dst (f2 g2)).put o3.dst (f3 g3)).put o4.dst (f4 g4))) : wpV C0 P md ops Q ex (fuel + 4) C listed a := by
 have s1 := fun cs b => Region.noSelect_spec hs i1 o1 cs b h1
 have s2 := fun cs b => Region.noSelect_spec hs i2 o2 cs b h2
 have s3 := fun cs b => Region.noSelect_spec hs i3 o3 cs b h3
 have s4 := fun cs b => Region.noSelect_spec hs i4 o4 cs b h4
 refine ⟨fun h0 => (by rw [r0] at h0; cases h0), fun j hj => ?_⟩
 rw [r0] at hj
 simp only [List.mem_cons, List.not_mem_nil, or_false] at hj
 rcases hj with rfl | rfl | rfl | rfl
 ·refine .inr (.inr (.inl ⟨o1, f1, c1, t1, h1, y1, fun g1 e1 => ?_⟩))
  refine wpV_n3 hs h2 h3 h4 r1 r12 r13 r14 r123 r124 r132 r134 r142 r143 p23 q23 p24 q24 p32 q32 p34 q34 p42 q42 p43 q43 (y2.put s2 p12 _) (y3.put s3 p13 _) (y4.put s4 p14 _) ?_
  intro g2 g3 g4 e2' e3' e4' d23 d24 d34
  obtain ⟨e2, d12⟩ := blk_fresh e2'
  obtain ⟨e3, d13⟩ := blk_fresh e3'
  obtain ⟨e4, d14⟩ := blk_fresh e4'
  have H := h g1 g2 g3 g4 e1 e2 e3 e4 d12 d13 d14 d23 d24 d34
  exact H
 ·refine .inr (.inr (.inl ⟨o2, f2, c2, t2, h2, y2, fun g2 e2 => ?_⟩))
  refine wpV_n3 hs h1 h3 h4 r2 r21 r23 r24 r213 r214 r231 r234 r241 r243 p13 q13 p14 q14 p31 q31 p34 q34 p41 q41 p43 q43 (y1.put s1 p21 _) (y3.put s3 p23 _) (y4.put s4 p24 _) ?_
  intro g1 g3 g4 e1' e3' e4' d13 d14 d34
  obtain ⟨e1, d21⟩ := blk_fresh e1'
  obtain ⟨e3, d23⟩ := blk_fresh e3'
  obtain ⟨e4, d24⟩ := blk_fresh e4'
  have H := h g1 g2 g3 g4 e1 e2 e3 e4 (Ne.symm d21) d13 d14 d23 d24 d34
  rw [Array.setIfInBounds_comm (xs := listed) _ _ q12, Act.put_comm a (f1 g1) (f2 g2) (Oper.apart_spec p12).2.1] at H
  exact wpV_weak _ _ _ (fun W hW => ⟨⟨⟨⟨hW.1.1.1.1, hW.1.1.2⟩, hW.1.1.1.2⟩, hW.1.2⟩, hW.2⟩) H
 ·refine .inr (.inr (.inl ⟨o3, f3, c3, t3, h3, y3, fun g3 e3 => ?_⟩))
  refine wpV_n3 hs h1 h2 h4 r3 r31 r32 r34 r312 r314 r321 r324 r341 r342 p12 q12 p14 q14 p21 q21 p24 q24 p41 q41 p42 q42 (y1.put s1 p31 _) (y2.put s2 p32 _) (y4.put s4 p34 _) ?_
  intro g1 g2 g4 e1' e2' e4' d12 d14 d24
  obtain ⟨e1, d31⟩ := blk_fresh e1'
  obtain ⟨e2, d32⟩ := blk_fresh e2'
  obtain ⟨e4, d34⟩ := blk_fresh e4'
  have H := h g1 g2 g3 g4 e1 e2 e3 e4 d12 (Ne.symm d31) d14 (Ne.symm d32) d24 d34
  rw [Array.setIfInBounds_comm (xs := (listed.setIfInBounds i1 true)) _ _ q23, Act.put_comm (a.put o1.dst (f1 g1)) (f2 g2) (f3 g3) (Oper.apart_spec p23).2.1] at H
  rw [Array.setIfInBounds_comm (xs := listed) _ _ q13, Act.put_comm a (f1 g1) (f3 g3) (Oper.apart_spec p13).2.1] at H
  exact wpV_weak _ _ _ (fun W hW => ⟨⟨⟨⟨hW.1.1.1.1, hW.1.1.2⟩, hW.1.2⟩, hW.1.1.1.2⟩, hW.2⟩) H
 ·refine .inr (.inr (.inl ⟨o4, f4, c4, t4, h4, y4, fun g4 e4 => ?_⟩))
  refine wpV_n3 hs h1 h2 h3 r4 r41 r42 r43 r412 r413 r421 r423 r431 r432 p12 q12 p13 q13 p21 q21 p23 q23 p31 q31 p32 q32 (y1.put s1 p41 _) (y2.put s2 p42 _) (y3.put s3 p43 _) ?_
  intro g1 g2 g3 e1' e2' e3' d12 d13 d23
  obtain ⟨e1, d41⟩ := blk_fresh e1'
  obtain ⟨e2, d42⟩ := blk_fresh e2'
  obtain ⟨e3, d43⟩ := blk_fresh e3'
  have H := h g1 g2 g3 g4 e1 e2 e3 e4 d12 d13 (Ne.symm d41) d23 (Ne.symm d42) (Ne.symm d43)
  rw [Array.setIfInBounds_comm (xs := ((listed.setIfInBounds i1 true).setIfInBounds i2 true)) _ _ q34, Act.put_comm ((a.put o1.dst (f1 g1)).put o2.dst (f2 g2)) (f3 g3) (f4 g4) (Oper.apart_spec p34).2.1] at H
  rw [Array.setIfInBounds_comm (xs := (listed.setIfInBounds i1 true)) _ _ q24, Act.put_comm (a.put o1.dst (f1 g1)) (f2 g2) (f4 g4) (Oper.apart_spec p24).2.1] at H
  rw [Array.setIfInBounds_comm (xs := listed) _ _ q14, Act.put_comm a (f1 g1) (f4 g4) (Oper.apart_spec p14).2.1] at H
  exact wpV_weak _ _ _ (fun W hW => ⟨⟨⟨⟨hW.1.1.1.1, hW.1.1.2⟩, hW.1.2⟩, hW.2⟩, hW.1.1.1.2⟩) H
end Go.Proofs.YtociicfjhgfgpaaGreatDoor
namespace Go.Proofs.YtociicfjhgfgpaaGreatDoor
open Go.RowKit Go.Shelf Go.Lib Go.Proofs.YtociicfjhgfgpaaGreatDoorW.PrintWords
abbrev Ps := Rat × Rat × Rat × Rat × Rat
def encP (p : Ps) : List Value := [.string (itx p.1.num), .string (itx (p.1.den : Int)), .string (itx p.2.1.num), .string (itx (p.2.1.den : Int)), .string (itx p.2.2.1.num), .string (itx (p.2.2.1.den : Int)), .string (itx p.2.2.2.1.num), .string (itx (p.2.2.2.1.den : Int)), .string (itx p.2.2.2.2.num), .string (itx (p.2.2.2.2.den : Int))]
def kPs : Kd Ps := flat 10 encP (fun _ => rfl) (fun x u hu => by simp [encP] at hu; rcases hu with rfl | rfl | rfl | rfl | rfl | rfl | rfl | rfl | rfl | rfl <;> rfl)
theorem info61 : (Tryz.prog.info? 61).map (fun i => (i.zero, i.size, i.bytes)) = some (some (.agg #[.string ⟨#[]⟩, .string ⟨#[]⟩, .string ⟨#[]⟩, .string ⟨#[]⟩, .string ⟨#[]⟩, .string ⟨#[]⟩, .string ⟨#[]⟩, .string ⟨#[]⟩, .string ⟨#[]⟩, .string ⟨#[]⟩]), 10, 160) := by kernel_rfl
theorem app160 {n : Nat} (h : n ≤ 1000) : (n + 1) * 160 ≤ 140737488355328 := by omega
theorem pl_pass (w0 : World) (bo bz : Nat) (vs : Value) (L : List Ps) (x0 y0 x1 y1 z : Rat) (w : World) (hk : Blk w bo #[vs] 34) (hz : Blk w bz #[.string (itx z.num), .string (itx (z.den : Int))] 25) (HO : OwnK kPs 61 w w0.heap.size vs L) (HB : Below w0.heap.size w0 w) (hb : w0.heap.size ≤ bo) (hl : L.length < 12) :
  Calls Tryz.prog 76 #[rv x0, rv y0, rv x1, rv y1, .pointer (some ⟨bo, 0, none⟩), .pointer (some ⟨bz, 0, none⟩)] w fun e w' => ∃ vs', e = .returned (.tuple #[]) ∧ Blk w' bo #[vs'] 34 ∧ OwnK kPs 61 w' w0.heap.size vs' (L ++ [(x0, y0, x1, y1, z)]) ∧ Below w0.heap.size w0 w' ∧ Stay w w' bo vs := by
 obtain ⟨A, cp, e0⟩ := Kd.R_slice HO
 subst e0
 have EC : Aside0 (encP (x0, y0, x1, y1, z) = [.string (itx x0.num), .string (itx (x0.den : Int)), .string (itx y0.num), .string (itx (y0.den : Int)), .string (itx x1.num), .string (itx (x1.den : Int)), .string (itx y1.num), .string (itx (y1.den : Int)), .string (itx z.num), .string (itx (z.den : Int))]) := Aside0.mk rfl
 have CO := fun W => pl_check_ok W
 have HLE := Aside0.mk (app160 (n := L.length) (by omega))
 have g1 : ((L.length : Int) + 1 ≤ 12) = True := eq_true (by omega)
 have g2 : decide ((L.length : Int) + 1 ≤ 12) = true := decide_eq_true (by omega)
 obtain ⟨PP, hPP⟩ : ∃ p : Ps, (x0, y0, x1, y1, z) = p := ⟨_, rfl⟩
 rw [hPP] at EC ⊢
 clear hPP hl
 unfold rv at *
 generalize itx x0.num = a1 at *
 generalize itx (x0.den : Int) = a2 at *
 generalize itx y0.num = b1 at *
 generalize itx (y0.den : Int) = b2 at *
 generalize itx x1.num = c1 at *
 generalize itx (x1.den : Int) = c2 at *
 generalize itx y1.num = d1 at *
 generalize itx (y1.den : Int) = d2 at *
 generalize itx z.num = z1 at *
 generalize itx (z.den : Int) = z2 at *
 obtain ⟨hB0, k0, k1, k2, k3⟩ := news4 w #[.string a1, .string a2] 25 #[.string b1, .string b2] 25 #[.string c1, .string c2] 25 #[.string d1, .string d2] 25
 have KO := hk.below hB0
 have KZ := hz.below hB0
 have HO4 := HO.below hB0
 have HB4 := bZs HB hB0
 have o0 := KO.cell 0
 obtain ⟨z0, z1', _, _⟩ := KZ.two
 go_enter Tryz.func76, Tryz.ntmps76
 go_wp2_with (first | (at_builtin; refine Kd.R_append kPs (w0 := w0) (W := ((((w.alloc (.cells #[.string a1, .string a2] 25)).alloc (.cells #[.string b1, .string b2] 25)).alloc (.cells #[.string c1, .string c2] 25)).alloc (.cells #[.string d1, .string d2] 25))) w0.heap.size rfl (.tmp 10) (.tmp 17) 34 61 (.agg #[.string ⟨#[]⟩, .string ⟨#[]⟩, .string ⟨#[]⟩, .string ⟨#[]⟩, .string ⟨#[]⟩, .string ⟨#[]⟩, .string ⟨#[]⟩, .string ⟨#[]⟩, .string ⟨#[]⟩, .string ⟨#[]⟩]) 160 rfl Tryz.underlying34 info61 rfl (by decide) (by decide) (.slice A L.length cp) L PP [.string a1, .string a2, .string b1, .string b2, .string c1, .string c2, .string d1, .string d2, .string z1, .string z2] (fun _ => True) (fun _ => False) rfl (by rw [World.size_alloc, World.size_alloc, World.size_alloc, World.size_alloc]; rfl) EC.out.symm (fun _ hk => hk.elim) (fun _ _ => trivial) HO4 HB4 (bZz HB4) HLE.out ?_; intro v1 w5 HO5 HB5 HG5 _; obtain ⟨A5, c5, e5⟩ := Kd.R_slice HO5; rw [List.length_append, List.length_singleton] at e5; subst e5; have M0 := KO.kept HG5 (OwnK.not_blk HO4 KO (by decide)); obtain ⟨y0, y1⟩ := M0.one; have N0 := M0.set 0 (.slice A5 (L.length + 1) c5); have n0 := N0.cell 0) | (go_at_call 67; refine (CO _).mono ?_; rintro e w6 ⟨rfl, rfl⟩))
 go_end0
 have HO6 : OwnK kPs 61 w5 w0.heap.size (.slice A5 (L.length + 1) c5) (L ++ [PP]) := HO5
 exact ⟨_, rfl, N0, HO6.set M0 (by decide) 0 _, bZe HB5 hb, ⟨by rw [World.size_setCell]; exact Nat.le_trans (bZz hB0) HG5.size, fun k hk' hkb hkv => (Below.heap_setCell w5 ⟨bo, 0, none⟩ _ k hkb).trans ((HG5.block k (Nat.lt_of_lt_of_le hk' (bZz hB0)) hkv).trans (hB0.block k hk'))⟩⟩
end Go.Proofs.YtociicfjhgfgpaaGreatDoor

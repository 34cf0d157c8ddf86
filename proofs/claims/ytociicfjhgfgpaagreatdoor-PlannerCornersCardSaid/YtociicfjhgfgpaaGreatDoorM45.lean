/- planner: Pocket: the walks, where one row is enough, and where the tool does not fit. -/
import Derived.Test.YtociicfjhgfgpaaGreatDoorM44
set_option linter.unusedVariables false
set_option linter.unusedSimpArgs false
namespace Go.Proofs.YtociicfjhgfgpaaGreatDoor
open Go.RowKit Go.Shelf Go.Lib Go.Proofs.YtociicfjhgfgpaaGreatDoorW.PrintWords
theorem wpOp_in {P : Program} {ops : Array Oper} {Q : Exit → Act → World → Prop} {i : Nat} {o : Oper} {K : Act → World → Prop} {a : Act} {w : World} (ho : ops[i]? = some o) (hw : Region.wanted o (yielded ops a.tmps) = true) (h : Oper.wp P o a w K Q) : wpOp P ops Q i K a w := by
 unfold wpOp
 simp only [ho]
 rw [if_pos hw]
 exact .inl h
theorem wpU_or {P : Program} {ops : Array Oper} {Q : Exit → Act → World → Prop} {md : Region.Mode} {ex : Nat → Bool} {C : World → Prop} {i k : Nat} {ok : Oper} {fuel : Nat} {listed : Array Bool} {a : Act} {d : Option Tmp} {v : Value} (hr : Region.ready md ops listed = [i, k]) (hx : ex i = true) (hk : ops[k]? = some ok) (hd : ok.dst = d) (hw : Region.wanted ok (yielded ops a.tmps) = true) (hy : ∀ w, C w → (execOp a.eval ok).run P w = .ok (.value v) w)
  (h1 : ∀ w, C w → wpOp P ops Q i (wpAny P md ops Q fuel (listed.setIfInBounds i true)) a w) (h2 : wpU P md ops Q ex fuel C (listed.setIfInBounds k true) (a.put d v)) : wpU P md ops Q ex (fuel + 1) C listed a := by
 subst hd
 refine ⟨fun h0 => (by rw [hr] at h0; cases h0), fun j hj => ?_⟩
 rw [hr] at hj
 simp only [List.mem_cons, List.not_mem_nil, or_false] at hj
 rcases hj with rfl | rfl
 ·exact .inl ⟨hx, h1⟩
 ·exact .inr (.inl ⟨ok, v, hk, .inl ⟨hw, .inl hy⟩, h2⟩)
def rows1 (p : Pkt) (z : Rat) : List Ps := [(p.a, p.b, p.a, p.d, z), (p.c, p.b, p.c, p.d, z), (p.a, p.b, p.c, p.b, z), (p.a, p.d, p.c, p.d, z)]
structure One (p : Pkt) : Prop where
 b8 : Sm 8 p.b
 rr : Sm 40 (p.r + p.r)
 w : p.a < p.c
 h : p.b < p.d
 one : ¬ p.b + (p.r + p.r) < p.d
set_option maxHeartbeats 4000000 in
set_option maxRecDepth 100000 in
theorem pl_P1_ok (b0 b1 b2 b3 b4 b5 : Nat) (x0 y0 x1 y1 r z : Rat) (pa : Addr) (w : World) (hp : Pow w) (hP : Plan w pa) (g0 : Blk w b0 #[.string (itx x0.num), .string (itx (x0.den : Int))] 25) (g1 : Blk w b1 #[.string (itx y0.num), .string (itx (y0.den : Int))] 25) (g2 : Blk w b2 #[.string (itx x1.num), .string (itx (x1.den : Int))] 25) (g3 : Blk w b3 #[.string (itx y1.num), .string (itx (y1.den : Int))] 25) (g4 : Blk w b4 #[.string (itx r.num), .string (itx (r.den : Int))] 25) (g5 : Blk w b5 #[.string (itx z.num), .string (itx (z.den : Int))] 25) (hI : Inp x0 y0 x1 y1 r) (hz : Sq z) (h1 : One (Pkt.of x0 y0 x1 y1 r)) (hf : fitsP x0 y0 x1 y1 r = true) :
  Calls Tryz.prog 27 #[.pointer (some ⟨b0, 0, none⟩), .pointer (some ⟨b1, 0, none⟩), .pointer (some ⟨b2, 0, none⟩), .pointer (some ⟨b3, 0, none⟩), .pointer (some ⟨b4, 0, none⟩), .pointer (some ⟨b5, 0, none⟩)] w fun e w' => ∃ A m c, e = .returned (.slice A m c) ∧ OwnK kPs 61 w' w.heap.size (.slice A m c) (rows1 (Pkt.of x0 y0 x1 y1 r) z) ∧ Below w.heap.size w w' := by
 have NP := fun W hp hP => pl_new x0 y0 x1 y1 r pa W hp hP hI.h0 hI.h1 hI.h2 hI.h3 hI.h4 hI.hr hI.hx hI.hy
 rw [hf] at NP
 have hh0 : 0 < w.heap.size := World.block_lt_of_cell? _ _ hP
 have PS := fun W hp => pl_passes1 (Pkt.of x0 y0 x1 y1 r) z W hp hI.sq hz hI.h4 h1.b8 h1.rr h1.w h1.h h1.one
 have hrw : rows1 (Pkt.of x0 y0 x1 y1 r) z = [((Pkt.of x0 y0 x1 y1 r).a, (Pkt.of x0 y0 x1 y1 r).b, (Pkt.of x0 y0 x1 y1 r).a, (Pkt.of x0 y0 x1 y1 r).d, z), ((Pkt.of x0 y0 x1 y1 r).c, (Pkt.of x0 y0 x1 y1 r).b, (Pkt.of x0 y0 x1 y1 r).c, (Pkt.of x0 y0 x1 y1 r).d, z), ((Pkt.of x0 y0 x1 y1 r).a, (Pkt.of x0 y0 x1 y1 r).b, (Pkt.of x0 y0 x1 y1 r).c, (Pkt.of x0 y0 x1 y1 r).b, z), ((Pkt.of x0 y0 x1 y1 r).a, (Pkt.of x0 y0 x1 y1 r).d, (Pkt.of x0 y0 x1 y1 r).c, (Pkt.of x0 y0 x1 y1 r).d, z)] := rfl
 rw [← hrw] at PS
 clear hrw h1
 generalize rows1 (Pkt.of x0 y0 x1 y1 r) z = RW at *
 generalize pkv (Pkt.of x0 y0 x1 y1 r) = PK at *
 clear hI hf hz
 unfold rcv rv at NP
 simp only [if_true] at NP
 unfold rv at PS
 generalize itx x0.num = a1 at *
 generalize itx (x0.den : Int) = a2 at *
 generalize itx y0.num = b1 at *
 generalize itx (y0.den : Int) = b2 at *
 generalize itx x1.num = c1 at *
 generalize itx (x1.den : Int) = c2 at *
 generalize itx y1.num = d1 at *
 generalize itx (y1.den : Int) = d2 at *
 generalize itx r.num = r1 at *
 generalize itx (r.den : Int) = r2 at *
 generalize itx z.num = z1 at *
 generalize itx (z.den : Int) = z2 at *
 go_enter Tryz.func27, Tryz.ntmps27
 go_wp2
 have hb1 := below_drew (Below.refl w.heap.size w)
 refine wp_region_U (fun i => i == 10 || i == 11) (fun W => Below w.drew.heap.size w.drew W) (by kernel_rfl) (closed_below _) (Below.refl _ _) ?_
 apply wpU_tk 0 (some 7)
 ·intro W hW
  have e0 := (g0.drew.below hW).cell 0; have e1 := (g0.drew.below hW).cell 1
  go_simp
  try rfl
 apply wpU_act
 apply Exists.intro
 refine ⟨?_, ?_⟩
 ·go_simp
  try rfl
 apply wpU_tk 1 (some 8)
 ·intro W hW
  have e0 := (g1.drew.below hW).cell 0; have e1 := (g1.drew.below hW).cell 1
  go_simp
  try rfl
 apply wpU_act
 apply Exists.intro
 refine ⟨?_, ?_⟩
 ·go_simp
  try rfl
 apply wpU_tk 2 (some 9)
 ·intro W hW
  go_simp
  try rfl
 apply wpU_act
 apply Exists.intro
 refine ⟨?_, ?_⟩
 ·go_simp
  try rfl
 apply wpU_tk 3 (some 10)
 ·intro W hW
  have e0 := (g2.drew.below hW).cell 0; have e1 := (g2.drew.below hW).cell 1
  go_simp
  try rfl
 apply wpU_act
 apply Exists.intro
 refine ⟨?_, ?_⟩
 ·go_simp
  try rfl
 apply wpU_tk 4 (some 11)
 ·intro W hW
  have e0 := (g3.drew.below hW).cell 0; have e1 := (g3.drew.below hW).cell 1
  go_simp
  try rfl
 apply wpU_act
 apply Exists.intro
 refine ⟨?_, ?_⟩
 ·go_simp
  try rfl
 apply wpU_tk 5 (some 12)
 ·intro W hW
  go_simp
  try rfl
 apply wpU_act
 apply Exists.intro
 refine ⟨?_, ?_⟩
 ·go_simp
  try rfl
 apply wpU_tk 6 (some 13)
 ·intro W hW
  go_simp
  try rfl
 apply wpU_act
 apply Exists.intro
 refine ⟨?_, ?_⟩
 ·go_simp
  try rfl
 apply wpU_tk 7 (some 14)
 ·intro W hW
  have e0 := (g4.drew.below hW).cell 0; have e1 := (g4.drew.below hW).cell 1
  go_simp
  try rfl
 apply wpU_act
 apply Exists.intro
 refine ⟨?_, ?_⟩
 ·go_simp
  try rfl
 apply wpU_tk 9 (some 16)
 ·intro W hW
  have e0 := (g5.drew.below hW).cell 0; have e1 := (g5.drew.below hW).cell 1
  go_simp
  try rfl
 apply wpU_act
 apply Exists.intro
 refine ⟨?_, ?_⟩
 ·go_simp
  try rfl
 refine wpU_call (PK) (i := 8) (d := some 15) rfl rfl (by kernel_rfl) (by kernel_rfl) (by kernel_rfl) (by kernel_rfl) (by rfl) ⟨28, #[.agg #[.string a1, .string a2, .string b1, .string b2, .string c1, .string c2, .string d1, .string d2], .agg #[.string r1, .string r2]], fun W hW => ?_, fun W hW => NP W (hp.below (below_step hb1 hW)) (hP.below (below_step hb1 hW) hh0)⟩ ?_
 ·rw [ucall_run rfl rfl (enters_of Tryz.func28 (by kernel_rfl) rfl) W]
  go_simp
 apply wpU_act
 apply Exists.intro
 refine ⟨?_, ?_⟩
 ·go_simp
  try rfl
 refine wpU_late (by kernel_rfl) (fun W1 hW1 => ?_)
 have hB2 := below_step hb1 hW1
 clear NP
 refine wpAny_step1 (i := 10) (by kernel_rfl) rfl (by rfl) (fun K hK => ?_)
 go_simp
 go_at_call 29
 refine (PS _ (hp.below hB2)).mono ?_
 rintro e w3 ⟨XA, xc, rfl, HO, hb3⟩
 refine hK _ _ ?_
 clear hK K PS
 refine wpAny_last (i := 11) (by kernel_rfl) rfl (by kernel_rfl) (by rfl) (fun K hK => ?_)
 go_simp
 refine hK _ _ ?_
 clear hK K
 go_wp2
 go_ret
 exact ⟨_, _, _, rfl, Kd.R_lower HO (below_size hB2), below_step hB2 hb3⟩
set_option maxHeartbeats 4000000 in
set_option maxRecDepth 100000 in
theorem pl_P1_bad (b0 b1 b2 b3 b4 b5 : Nat) (x0 y0 x1 y1 r z : Rat) (pa : Addr) (w : World) (hp : Pow w) (hP : Plan w pa) (g0 : Blk w b0 #[.string (itx x0.num), .string (itx (x0.den : Int))] 25) (g1 : Blk w b1 #[.string (itx y0.num), .string (itx (y0.den : Int))] 25) (g2 : Blk w b2 #[.string (itx x1.num), .string (itx (x1.den : Int))] 25) (g3 : Blk w b3 #[.string (itx y1.num), .string (itx (y1.den : Int))] 25) (g4 : Blk w b4 #[.string (itx r.num), .string (itx (r.den : Int))] 25) (g5 : Blk w b5 #[.string (itx z.num), .string (itx (z.den : Int))] 25) (hI : Inp x0 y0 x1 y1 r) (hz : Sq z) (hf : fitsP x0 y0 x1 y1 r = false) :
  Calls Tryz.prog 27 #[.pointer (some ⟨b0, 0, none⟩), .pointer (some ⟨b1, 0, none⟩), .pointer (some ⟨b2, 0, none⟩), .pointer (some ⟨b3, 0, none⟩), .pointer (some ⟨b4, 0, none⟩), .pointer (some ⟨b5, 0, none⟩)] w fun e w' => e = .panicked (chain pa false) ∧ Below w.heap.size w w' := by
 have NP := fun W hp hP => pl_new x0 y0 x1 y1 r pa W hp hP hI.h0 hI.h1 hI.h2 hI.h3 hI.h4 hI.hr hI.hx hI.hy
 rw [hf] at NP
 have hh0 : 0 < w.heap.size := World.block_lt_of_cell? _ _ hP
 generalize pkv (Pkt.of x0 y0 x1 y1 r) = PK at *
 clear hI hf hz
 unfold rcv rv at NP
 simp only [Bool.false_eq_true, if_false] at NP
 skip
 generalize itx x0.num = a1 at *
 generalize itx (x0.den : Int) = a2 at *
 generalize itx y0.num = b1 at *
 generalize itx (y0.den : Int) = b2 at *
 generalize itx x1.num = c1 at *
 generalize itx (x1.den : Int) = c2 at *
 generalize itx y1.num = d1 at *
 generalize itx (y1.den : Int) = d2 at *
 generalize itx r.num = r1 at *
 generalize itx (r.den : Int) = r2 at *
 generalize itx z.num = z1 at *
 generalize itx (z.den : Int) = z2 at *
 go_enter Tryz.func27, Tryz.ntmps27
 go_wp2
 have hb1 := below_drew (Below.refl w.heap.size w)
 refine wp_region_U (fun i => i == 8 || i == 10 || i == 11) (fun W => Below w.drew.heap.size w.drew W) (by kernel_rfl) (closed_below _) (Below.refl _ _) ?_
 apply wpU_tk 0 (some 7)
 ·intro W hW
  have e0 := (g0.drew.below hW).cell 0; have e1 := (g0.drew.below hW).cell 1
  go_simp
  try rfl
 apply wpU_act
 apply Exists.intro
 refine ⟨?_, ?_⟩
 ·go_simp
  try rfl
 apply wpU_tk 1 (some 8)
 ·intro W hW
  have e0 := (g1.drew.below hW).cell 0; have e1 := (g1.drew.below hW).cell 1
  go_simp
  try rfl
 apply wpU_act
 apply Exists.intro
 refine ⟨?_, ?_⟩
 ·go_simp
  try rfl
 apply wpU_tk 2 (some 9)
 ·intro W hW
  go_simp
  try rfl
 apply wpU_act
 apply Exists.intro
 refine ⟨?_, ?_⟩
 ·go_simp
  try rfl
 apply wpU_tk 3 (some 10)
 ·intro W hW
  have e0 := (g2.drew.below hW).cell 0; have e1 := (g2.drew.below hW).cell 1
  go_simp
  try rfl
 apply wpU_act
 apply Exists.intro
 refine ⟨?_, ?_⟩
 ·go_simp
  try rfl
 apply wpU_tk 4 (some 11)
 ·intro W hW
  have e0 := (g3.drew.below hW).cell 0; have e1 := (g3.drew.below hW).cell 1
  go_simp
  try rfl
 apply wpU_act
 apply Exists.intro
 refine ⟨?_, ?_⟩
 ·go_simp
  try rfl
 apply wpU_tk 5 (some 12)
 ·intro W hW
  go_simp
  try rfl
 apply wpU_act
 apply Exists.intro
 refine ⟨?_, ?_⟩
 ·go_simp
  try rfl
 apply wpU_tk 6 (some 13)
 ·intro W hW
  go_simp
  try rfl
 apply wpU_act
 apply Exists.intro
 refine ⟨?_, ?_⟩
 ·go_simp
  try rfl
 apply wpU_tk 7 (some 14)
 ·intro W hW
  have e0 := (g4.drew.below hW).cell 0; have e1 := (g4.drew.below hW).cell 1
  go_simp
  try rfl
 apply wpU_act
 apply Exists.intro
 refine ⟨?_, ?_⟩
 ·go_simp
  try rfl
 refine wpU_or (i := 8) (k := 9) (d := some 16) (v := .agg #[.string z1, .string z2]) (by kernel_rfl) rfl rfl rfl (by rfl) (fun W hW => ?_) (fun W1 hW1 => ?_) ?_
 ·have e0 := (g5.drew.below hW).cell 0; have e1 := (g5.drew.below hW).cell 1
  go_simp
  try rfl
 ·have hB1 := below_step hb1 hW1
  refine wpOp_in rfl (by rfl) ?_
  go_simp
  go_at_call 28
  refine (NP _ (hp.below hB1) (hP.below hB1 hh0)).mono ?_
  rintro e w2 ⟨rfl, hb2⟩
  exact ⟨rfl, rfl, below_step hB1 hb2⟩
 ·apply wpU_act
  apply Exists.intro
  refine ⟨?_, ?_⟩
  ·go_simp
   try rfl
  refine wpU_late (by kernel_rfl) (fun W1 hW1 => ?_)
  have hB1 := below_step hb1 hW1
  refine wpAny_step1 (i := 8) (by kernel_rfl) rfl (by rfl) (fun K hK => ?_)
  go_simp
  go_at_call 28
  refine (NP _ (hp.below hB1) (hP.below hB1 hh0)).mono ?_
  rintro e w2 ⟨rfl, hb2⟩
  exact ⟨rfl, rfl, below_step hB1 hb2⟩
set_option maxHeartbeats 8000000 in
set_option maxRecDepth 100000 in
theorem pl_Pocket_ok (x0 y0 x1 y1 z r : Rat) (pa : Addr) (w : World) (hp : Pow w) (hP : Plan w pa) (hI : Inp x0 y0 x1 y1 r) (hz : Sq z) (h1 : One (Pkt.of x0 y0 x1 y1 r)) (hf : fitsP x0 y0 x1 y1 r = true) :
  Calls Tryz.prog 11 #[rv x0, rv y0, rv x1, rv y1, rv z, rv r] w fun e w' => ∃ A m c, e = .returned (.tuple #[.slice A m c, .int .i64 0]) ∧ OwnK kPs 61 w' w.heap.size (.slice A m c) (rows1 (Pkt.of x0 y0 x1 y1 r) z) ∧ Below w.heap.size w w' := by
 have R1 := fun (b0 b1 b2 b3 b4 b5 : Nat) (W : World) hp hP g0 g1 g2 g3 g4 g5 => pl_P1_ok b0 b1 b2 b3 b4 b5 x0 y0 x1 y1 r z pa W hp hP g0 g1 g2 g3 g4 g5 hI hz h1 hf
 have hh0 : 0 < w.heap.size := World.block_lt_of_cell? _ _ hP
 clear h1
 generalize rows1 (Pkt.of x0 y0 x1 y1 r) z = RG at *
 clear hI hf hz
 unfold rv at *
 generalize itx x0.num = a1 at *
 generalize itx (x0.den : Int) = a2 at *
 generalize itx y0.num = b1 at *
 generalize itx (y0.den : Int) = b2 at *
 generalize itx x1.num = c1 at *
 generalize itx (x1.den : Int) = c2 at *
 generalize itx y1.num = d1 at *
 generalize itx (y1.den : Int) = d2 at *
 generalize itx r.num = r1 at *
 generalize itx (r.den : Int) = r2 at *
 generalize itx z.num = z1 at *
 generalize itx (z.den : Int) = z2 at *
 have hB0 : Below w.heap.size w ((((((w.alloc (.cells #[.string a1, .string a2] 25)).alloc (.cells #[.string b1, .string b2] 25)).alloc (.cells #[.string c1, .string c2] 25)).alloc (.cells #[.string d1, .string d2] 25)).alloc (.cells #[.string z1, .string z2] 25)).alloc (.cells #[.string r1, .string r2] 25)) := below_alloc (below_alloc (below_alloc (below_alloc (below_alloc (below_alloc (Below.refl _ _) _) _) _) _) _) _
 have k0 := ((((((Blk.new w #[.string a1, .string a2] 25).alloc (.cells #[.string b1, .string b2] 25)).alloc (.cells #[.string c1, .string c2] 25)).alloc (.cells #[.string d1, .string d2] 25)).alloc (.cells #[.string z1, .string z2] 25)).alloc (.cells #[.string r1, .string r2] 25))
 have k1 : Blk ((((((w.alloc (.cells #[.string a1, .string a2] 25)).alloc (.cells #[.string b1, .string b2] 25)).alloc (.cells #[.string c1, .string c2] 25)).alloc (.cells #[.string d1, .string d2] 25)).alloc (.cells #[.string z1, .string z2] 25)).alloc (.cells #[.string r1, .string r2] 25)) (w.heap.size + 1) #[.string b1, .string b2] 25 := by
  have := (((((Blk.new (w.alloc (.cells #[.string a1, .string a2] 25)) #[.string b1, .string b2] 25).alloc (.cells #[.string c1, .string c2] 25)).alloc (.cells #[.string d1, .string d2] 25)).alloc (.cells #[.string z1, .string z2] 25)).alloc (.cells #[.string r1, .string r2] 25))
  rwa [World.size_alloc] at this
 have k2 : Blk ((((((w.alloc (.cells #[.string a1, .string a2] 25)).alloc (.cells #[.string b1, .string b2] 25)).alloc (.cells #[.string c1, .string c2] 25)).alloc (.cells #[.string d1, .string d2] 25)).alloc (.cells #[.string z1, .string z2] 25)).alloc (.cells #[.string r1, .string r2] 25)) (w.heap.size + 2) #[.string c1, .string c2] 25 := by
  have := ((((Blk.new ((w.alloc (.cells #[.string a1, .string a2] 25)).alloc (.cells #[.string b1, .string b2] 25)) #[.string c1, .string c2] 25).alloc (.cells #[.string d1, .string d2] 25)).alloc (.cells #[.string z1, .string z2] 25)).alloc (.cells #[.string r1, .string r2] 25))
  rwa [World.size_alloc, World.size_alloc] at this
 have k3 : Blk ((((((w.alloc (.cells #[.string a1, .string a2] 25)).alloc (.cells #[.string b1, .string b2] 25)).alloc (.cells #[.string c1, .string c2] 25)).alloc (.cells #[.string d1, .string d2] 25)).alloc (.cells #[.string z1, .string z2] 25)).alloc (.cells #[.string r1, .string r2] 25)) (w.heap.size + 3) #[.string d1, .string d2] 25 := by
  have := (((Blk.new (((w.alloc (.cells #[.string a1, .string a2] 25)).alloc (.cells #[.string b1, .string b2] 25)).alloc (.cells #[.string c1, .string c2] 25)) #[.string d1, .string d2] 25).alloc (.cells #[.string z1, .string z2] 25)).alloc (.cells #[.string r1, .string r2] 25))
  rwa [World.size_alloc, World.size_alloc, World.size_alloc] at this
 have k4 : Blk ((((((w.alloc (.cells #[.string a1, .string a2] 25)).alloc (.cells #[.string b1, .string b2] 25)).alloc (.cells #[.string c1, .string c2] 25)).alloc (.cells #[.string d1, .string d2] 25)).alloc (.cells #[.string z1, .string z2] 25)).alloc (.cells #[.string r1, .string r2] 25)) (w.heap.size + 4) #[.string z1, .string z2] 25 := by
  have := ((Blk.new ((((w.alloc (.cells #[.string a1, .string a2] 25)).alloc (.cells #[.string b1, .string b2] 25)).alloc (.cells #[.string c1, .string c2] 25)).alloc (.cells #[.string d1, .string d2] 25)) #[.string z1, .string z2] 25).alloc (.cells #[.string r1, .string r2] 25))
  rwa [World.size_alloc, World.size_alloc, World.size_alloc, World.size_alloc] at this
 have k5 : Blk ((((((w.alloc (.cells #[.string a1, .string a2] 25)).alloc (.cells #[.string b1, .string b2] 25)).alloc (.cells #[.string c1, .string c2] 25)).alloc (.cells #[.string d1, .string d2] 25)).alloc (.cells #[.string z1, .string z2] 25)).alloc (.cells #[.string r1, .string r2] 25)) (w.heap.size + 5) #[.string r1, .string r2] 25 := by
  have := (Blk.new (((((w.alloc (.cells #[.string a1, .string a2] 25)).alloc (.cells #[.string b1, .string b2] 25)).alloc (.cells #[.string c1, .string c2] 25)).alloc (.cells #[.string d1, .string d2] 25)).alloc (.cells #[.string z1, .string z2] 25)) #[.string r1, .string r2] 25)
  rwa [World.size_alloc, World.size_alloc, World.size_alloc, World.size_alloc, World.size_alloc] at this
 have hh6 : 0 < ((((((w.alloc (.cells #[.string a1, .string a2] 25)).alloc (.cells #[.string b1, .string b2] 25)).alloc (.cells #[.string c1, .string c2] 25)).alloc (.cells #[.string d1, .string d2] 25)).alloc (.cells #[.string z1, .string z2] 25)).alloc (.cells #[.string r1, .string r2] 25)).heap.size := by simp
 have CP := cp26_ok 27 #[] #[.pointer (some ⟨w.heap.size, 0, none⟩), .pointer (some ⟨w.heap.size + 1, 0, none⟩), .pointer (some ⟨w.heap.size + 2, 0, none⟩), .pointer (some ⟨w.heap.size + 3, 0, none⟩), .pointer (some ⟨w.heap.size + 5, 0, none⟩), .pointer (some ⟨w.heap.size + 4, 0, none⟩)] (fun v W => OwnK kPs 61 W ((((((w.alloc (.cells #[.string a1, .string a2] 25)).alloc (.cells #[.string b1, .string b2] 25)).alloc (.cells #[.string c1, .string c2] 25)).alloc (.cells #[.string d1, .string d2] 25)).alloc (.cells #[.string z1, .string z2] 25)).alloc (.cells #[.string r1, .string r2] 25)).heap.size v RG) (fun v W g cs t i u ht hk h => OwnK.set h hk (by rcases ht with rfl | rfl <;> decide) i u) ((((((w.alloc (.cells #[.string a1, .string a2] 25)).alloc (.cells #[.string b1, .string b2] 25)).alloc (.cells #[.string c1, .string c2] 25)).alloc (.cells #[.string d1, .string d2] 25)).alloc (.cells #[.string z1, .string z2] 25)).alloc (.cells #[.string r1, .string r2] 25)) (enters_of Tryz.func27 (by kernel_rfl) rfl) (fun W hb => by
  refine (R1 w.heap.size (w.heap.size + 1) (w.heap.size + 2) (w.heap.size + 3) (w.heap.size + 5) (w.heap.size + 4) W (hp.below (below_step hB0 hb)) (hP.below (below_step hB0 hb) hh0) (k0.below hb) (k1.below hb) (k2.below hb) (k3.below hb) (k5.below hb) (k4.below hb)).mono ?_
  rintro e w' ⟨A, m, c, rfl, hO, hb2⟩
  exact ⟨A, m, c, rfl, Kd.R_lower hO (below_size hb), hb2⟩)
 have hmf := mk_fn
 clear R1
 go_enter Tryz.func11, Tryz.ntmps11
 go_wp2_with (go_at_call 26; refine CP.mono ?_; clear CP; rintro e w2 ⟨v, rfl, HO, hb2⟩; obtain ⟨XA, xc, ex⟩ := Kd.R_slice HO; subst ex)
 go_ret2
 exact ⟨_, _, _, rfl, Kd.R_lower HO (below_size hB0), below_step hB0 hb2⟩
set_option maxHeartbeats 8000000 in
set_option maxRecDepth 100000 in
theorem pl_Pocket_bad (x0 y0 x1 y1 z r : Rat) (pa : Addr) (w : World) (hp : Pow w) (hP : Plan w pa) (hI : Inp x0 y0 x1 y1 r) (hz : Sq z) (hf : fitsP x0 y0 x1 y1 r = false) :
  Calls Tryz.prog 11 #[rv x0, rv y0, rv x1, rv y1, rv z, rv r] w fun e w' => e = .returned (.tuple #[.slice none 0 0, .int .i64 290]) ∧ Below w.heap.size w w' := by
 have R1 := fun (b0 b1 b2 b3 b4 b5 : Nat) (W : World) hp hP g0 g1 g2 g3 g4 g5 => pl_P1_bad b0 b1 b2 b3 b4 b5 x0 y0 x1 y1 r z pa W hp hP g0 g1 g2 g3 g4 g5 hI hz hf
 have hh0 : 0 < w.heap.size := World.block_lt_of_cell? _ _ hP
 clear hI hf hz
 unfold rv at *
 generalize itx x0.num = a1 at *
 generalize itx (x0.den : Int) = a2 at *
 generalize itx y0.num = b1 at *
 generalize itx (y0.den : Int) = b2 at *
 generalize itx x1.num = c1 at *
 generalize itx (x1.den : Int) = c2 at *
 generalize itx y1.num = d1 at *
 generalize itx (y1.den : Int) = d2 at *
 generalize itx r.num = r1 at *
 generalize itx (r.den : Int) = r2 at *
 generalize itx z.num = z1 at *
 generalize itx (z.den : Int) = z2 at *
 have hB0 : Below w.heap.size w ((((((w.alloc (.cells #[.string a1, .string a2] 25)).alloc (.cells #[.string b1, .string b2] 25)).alloc (.cells #[.string c1, .string c2] 25)).alloc (.cells #[.string d1, .string d2] 25)).alloc (.cells #[.string z1, .string z2] 25)).alloc (.cells #[.string r1, .string r2] 25)) := below_alloc (below_alloc (below_alloc (below_alloc (below_alloc (below_alloc (Below.refl _ _) _) _) _) _) _) _
 have k0 := ((((((Blk.new w #[.string a1, .string a2] 25).alloc (.cells #[.string b1, .string b2] 25)).alloc (.cells #[.string c1, .string c2] 25)).alloc (.cells #[.string d1, .string d2] 25)).alloc (.cells #[.string z1, .string z2] 25)).alloc (.cells #[.string r1, .string r2] 25))
 have k1 : Blk ((((((w.alloc (.cells #[.string a1, .string a2] 25)).alloc (.cells #[.string b1, .string b2] 25)).alloc (.cells #[.string c1, .string c2] 25)).alloc (.cells #[.string d1, .string d2] 25)).alloc (.cells #[.string z1, .string z2] 25)).alloc (.cells #[.string r1, .string r2] 25)) (w.heap.size + 1) #[.string b1, .string b2] 25 := by
  have := (((((Blk.new (w.alloc (.cells #[.string a1, .string a2] 25)) #[.string b1, .string b2] 25).alloc (.cells #[.string c1, .string c2] 25)).alloc (.cells #[.string d1, .string d2] 25)).alloc (.cells #[.string z1, .string z2] 25)).alloc (.cells #[.string r1, .string r2] 25))
  rwa [World.size_alloc] at this
 have k2 : Blk ((((((w.alloc (.cells #[.string a1, .string a2] 25)).alloc (.cells #[.string b1, .string b2] 25)).alloc (.cells #[.string c1, .string c2] 25)).alloc (.cells #[.string d1, .string d2] 25)).alloc (.cells #[.string z1, .string z2] 25)).alloc (.cells #[.string r1, .string r2] 25)) (w.heap.size + 2) #[.string c1, .string c2] 25 := by
  have := ((((Blk.new ((w.alloc (.cells #[.string a1, .string a2] 25)).alloc (.cells #[.string b1, .string b2] 25)) #[.string c1, .string c2] 25).alloc (.cells #[.string d1, .string d2] 25)).alloc (.cells #[.string z1, .string z2] 25)).alloc (.cells #[.string r1, .string r2] 25))
  rwa [World.size_alloc, World.size_alloc] at this
 have k3 : Blk ((((((w.alloc (.cells #[.string a1, .string a2] 25)).alloc (.cells #[.string b1, .string b2] 25)).alloc (.cells #[.string c1, .string c2] 25)).alloc (.cells #[.string d1, .string d2] 25)).alloc (.cells #[.string z1, .string z2] 25)).alloc (.cells #[.string r1, .string r2] 25)) (w.heap.size + 3) #[.string d1, .string d2] 25 := by
  have := (((Blk.new (((w.alloc (.cells #[.string a1, .string a2] 25)).alloc (.cells #[.string b1, .string b2] 25)).alloc (.cells #[.string c1, .string c2] 25)) #[.string d1, .string d2] 25).alloc (.cells #[.string z1, .string z2] 25)).alloc (.cells #[.string r1, .string r2] 25))
  rwa [World.size_alloc, World.size_alloc, World.size_alloc] at this
 have k4 : Blk ((((((w.alloc (.cells #[.string a1, .string a2] 25)).alloc (.cells #[.string b1, .string b2] 25)).alloc (.cells #[.string c1, .string c2] 25)).alloc (.cells #[.string d1, .string d2] 25)).alloc (.cells #[.string z1, .string z2] 25)).alloc (.cells #[.string r1, .string r2] 25)) (w.heap.size + 4) #[.string z1, .string z2] 25 := by
  have := ((Blk.new ((((w.alloc (.cells #[.string a1, .string a2] 25)).alloc (.cells #[.string b1, .string b2] 25)).alloc (.cells #[.string c1, .string c2] 25)).alloc (.cells #[.string d1, .string d2] 25)) #[.string z1, .string z2] 25).alloc (.cells #[.string r1, .string r2] 25))
  rwa [World.size_alloc, World.size_alloc, World.size_alloc, World.size_alloc] at this
 have k5 : Blk ((((((w.alloc (.cells #[.string a1, .string a2] 25)).alloc (.cells #[.string b1, .string b2] 25)).alloc (.cells #[.string c1, .string c2] 25)).alloc (.cells #[.string d1, .string d2] 25)).alloc (.cells #[.string z1, .string z2] 25)).alloc (.cells #[.string r1, .string r2] 25)) (w.heap.size + 5) #[.string r1, .string r2] 25 := by
  have := (Blk.new (((((w.alloc (.cells #[.string a1, .string a2] 25)).alloc (.cells #[.string b1, .string b2] 25)).alloc (.cells #[.string c1, .string c2] 25)).alloc (.cells #[.string d1, .string d2] 25)).alloc (.cells #[.string z1, .string z2] 25)) #[.string r1, .string r2] 25)
  rwa [World.size_alloc, World.size_alloc, World.size_alloc, World.size_alloc, World.size_alloc] at this
 have hh6 : 0 < ((((((w.alloc (.cells #[.string a1, .string a2] 25)).alloc (.cells #[.string b1, .string b2] 25)).alloc (.cells #[.string c1, .string c2] 25)).alloc (.cells #[.string d1, .string d2] 25)).alloc (.cells #[.string z1, .string z2] 25)).alloc (.cells #[.string r1, .string r2] 25)).heap.size := by simp
 have CP := cp26_bad 27 #[] #[.pointer (some ⟨w.heap.size, 0, none⟩), .pointer (some ⟨w.heap.size + 1, 0, none⟩), .pointer (some ⟨w.heap.size + 2, 0, none⟩), .pointer (some ⟨w.heap.size + 3, 0, none⟩), .pointer (some ⟨w.heap.size + 5, 0, none⟩), .pointer (some ⟨w.heap.size + 4, 0, none⟩)] pa ((((((w.alloc (.cells #[.string a1, .string a2] 25)).alloc (.cells #[.string b1, .string b2] 25)).alloc (.cells #[.string c1, .string c2] 25)).alloc (.cells #[.string d1, .string d2] 25)).alloc (.cells #[.string z1, .string z2] 25)).alloc (.cells #[.string r1, .string r2] 25)) (hP.below hB0 hh0) hh6 (enters_of Tryz.func27 (by kernel_rfl) rfl) (fun W hb => R1 w.heap.size (w.heap.size + 1) (w.heap.size + 2) (w.heap.size + 3) (w.heap.size + 5) (w.heap.size + 4) W (hp.below (below_step hB0 hb)) (hP.below (below_step hB0 hb) hh0) (k0.below hb) (k1.below hb) (k2.below hb) (k3.below hb) (k5.below hb) (k4.below hb))
 have hmf := mk_fn
 clear R1
 go_enter Tryz.func11, Tryz.ntmps11
 go_wp2_with (go_at_call 26; refine CP.mono ?_; clear CP; rintro e w2 ⟨rfl, hb2⟩)
 go_ret2
 exact ⟨rfl, below_step hB0 hb2⟩
end Go.Proofs.YtociicfjhgfgpaaGreatDoor

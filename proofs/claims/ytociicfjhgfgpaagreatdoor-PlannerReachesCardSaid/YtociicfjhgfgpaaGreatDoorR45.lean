/- The fixed examples: the walk. PlannerReaches, where the tool does not fit: the walk. -/
import Derived.Test.YtociicfjhgfgpaaGreatDoorR40
import Derived.Test.YtociicfjhgfgpaaGreatDoorR44
import Derived.Test.YtociicfjhgfgpaaGreatDoorR39
set_option linter.unusedVariables false
set_option linter.unusedSimpArgs false
set_option maxHeartbeats 64000000
set_option maxRecDepth 100000
namespace Go.Proofs.YtociicfjhgfgpaaGreatDoor
open Go.RowKit Go.Shelf Go.Lib Go.Proofs.YtociicfjhgfgpaaGreatDoorW.PrintWords
theorem wpU_cn {P : Program} {ops : Array Oper} {Q : Exit → Act → World → Prop} {md : Region.Mode} {ex : Nat → Bool} {C : World → Prop} {i k : Nat} {ok : Oper} {fuel : Nat} {listed : Array Bool} {a : Act} {d : Option Tmp} (fv : Nat → Value) (cs : Array Value) (t : TypeId) (hr : Region.ready md ops listed = [i, k]) (hx : ex i = true) (hk : ops[k]? = some ok) (hd : ok.dst = d) (hw : Region.wanted ok (yielded ops a.tmps) = true) (hy : ∀ w, (execOp a.eval ok).run P w = .ok (.value (fv w.heap.size)) (w.alloc (.cells cs t)))
  (h1 : ∀ w, C w → wpOp P ops Q i (wpAny P md ops Q fuel (listed.setIfInBounds i true)) a w) (h2 : ∀ g, (∃ w, C w ∧ g = w.heap.size) → wpU P md ops Q ex fuel (fun W => C W ∧ Blk W g cs t) (listed.setIfInBounds k true) (a.put d (fv g))) : wpU P md ops Q ex (fuel + 1) C listed a := by
 subst hd
 refine ⟨fun h0 => (by rw [hr] at h0; cases h0), fun j hj => ?_⟩
 rw [hr] at hj
 simp only [List.mem_cons, List.not_mem_nil, or_false] at hj
 rcases hj with rfl | rfl
 ·exact .inl ⟨hx, h1⟩
 ·exact .inr (.inr ⟨ok, fv, cs, t, hk, ⟨hw, hy⟩, h2⟩)
theorem lw_sane (pa : Addr) (w : World) (hp : Pow w) (hP : Plan w pa) :
  Calls Tryz.prog 6 #[] w fun e w' => e = .returned (.bool true) ∧ Below w.heap.size w w' := by
 have hh0 : 0 < w.heap.size := World.block_lt_of_cell? _ _ hP
 have r01 := fun W => lw_ratio 0 1 W (by decide) (by decide) (by decide) (by decide)
 have r11 := fun W => lw_ratio 1 1 W (by decide) (by decide) (by decide) (by decide)
 have r61 := fun W => lw_ratio 6 1 W (by decide) (by decide) (by decide) (by decide)
 have r41 := fun W => lw_ratio 4 1 W (by decide) (by decide) (by decide) (by decide)
 have r14 := fun W => lw_ratio 1 4 W (by decide) (by decide) (by decide) (by decide)
 have r52 := fun W => lw_ratio 5 2 W (by decide) (by decide) (by decide) (by decide)
 have PO := fun W hp hP => pl_Pocket_fit (mkRat 0 1) (mkRat 0 1) (mkRat 6 1) (mkRat 4 1) (mkRat 1 1) (mkRat 1 1) pa W hp hP sn_inp ⟨by decide, by decide⟩ sn_rws sn_fits sn_len
 have PB := fun W hp hP => pl_Pocket_bad (mkRat 0 1) (mkRat 0 1) (mkRat 6 1) (mkRat 4 1) (mkRat 1 1) (mkRat 5 2) pa W hp hP sn_inp2 ⟨by decide, by decide⟩ sn_not
 have RE := fun W hp hP => pl_Reachable_ok (mkRat 0 1) (mkRat 0 1) (mkRat 6 1) (mkRat 4 1) (mkRat 1 1) pa W hp hP sn_inp sn_fits
 have C1 := fun v W hp hv => rg_Contains 10 v (reachR (Pkt.of (mkRat 0 1) (mkRat 0 1) (mkRat 6 1) (mkRat 4 1) (mkRat 1 1))) (mkRat 0 1) (mkRat 1 1) W hp (by decide) (by decide) hv (reach_sz sn_r0).1 (reach_sm sn_smP) ⟨by decide, by decide⟩ ⟨by decide, by decide⟩
 have C2 := fun v W hp hv => rg_Contains 10 v (reachR (Pkt.of (mkRat 0 1) (mkRat 0 1) (mkRat 6 1) (mkRat 4 1) (mkRat 1 1))) (mkRat 1 4) (mkRat 1 4) W hp (by decide) (by decide) hv (reach_sz sn_r0).1 (reach_sm sn_smP) ⟨by decide, by decide⟩ ⟨by decide, by decide⟩
 rw [sn_in] at C1
 rw [sn_out] at C2
 rw [sn_rows] at PO
 have p1 := fun W => lw_pass 1 1 1 3 W (by decide)
 have p2 := fun W => lw_pass 5 1 5 3 W (by decide)
 have p3 := fun W => lw_pass 1 1 5 1 W (by decide)
 have p4 := fun W => lw_pass 1 3 5 3 W (by decide)
 have FB := fun (W : World) (g : Nat) (hk : Blk W g #[.string (itx (mkRat 1 1).num), .string (itx ((mkRat 1 1).den : Int)), .string (itx (mkRat 1 1).num), .string (itx ((mkRat 1 1).den : Int)), .string (itx (mkRat 1 1).num), .string (itx ((mkRat 1 1).den : Int)), .string (itx (mkRat 3 1).num), .string (itx ((mkRat 3 1).den : Int)), .string (itx (mkRat 1 1).num), .string (itx ((mkRat 1 1).den : Int)), .string (itx (mkRat 5 1).num), .string (itx ((mkRat 5 1).den : Int)), .string (itx (mkRat 1 1).num), .string (itx ((mkRat 1 1).den : Int)), .string (itx (mkRat 5 1).num), .string (itx ((mkRat 5 1).den : Int)), .string (itx (mkRat 3 1).num), .string (itx ((mkRat 3 1).den : Int)), .string (itx (mkRat 1 1).num), .string (itx ((mkRat 1 1).den : Int)), .string (itx (mkRat 1 1).num), .string (itx ((mkRat 1 1).den : Int)), .string (itx (mkRat 1 1).num), .string (itx ((mkRat 1 1).den : Int)), .string (itx (mkRat 5 1).num), .string (itx ((mkRat 5 1).den : Int)), .string (itx (mkRat 1 1).num), .string (itx ((mkRat 1 1).den : Int)), .string (itx (mkRat 1 1).num), .string (itx ((mkRat 1 1).den : Int)), .string (itx (mkRat 1 1).num), .string (itx ((mkRat 1 1).den : Int)), .string (itx (mkRat 3 1).num), .string (itx ((mkRat 3 1).den : Int)), .string (itx (mkRat 5 1).num), .string (itx ((mkRat 5 1).den : Int)), .string (itx (mkRat 3 1).num), .string (itx ((mkRat 3 1).den : Int)), .string (itx (mkRat 1 1).num), .string (itx ((mkRat 1 1).den : Int))] 61) => flat_blk (n := 10) (enc := encP) (hl := fun _ => rfl) (h1 := fun x u hu => by simp [encP] at hu; rcases hu with rfl | rfl | rfl | rfl | rfl | rfl | rfl | rfl | rfl | rfl <;> rfl) [((mkRat 1 1), (mkRat 1 1), (mkRat 1 1), (mkRat 3 1), (mkRat 1 1)), ((mkRat 5 1), (mkRat 1 1), (mkRat 5 1), (mkRat 3 1), (mkRat 1 1)), ((mkRat 1 1), (mkRat 1 1), (mkRat 5 1), (mkRat 1 1), (mkRat 1 1)), ((mkRat 1 1), (mkRat 3 1), (mkRat 5 1), (mkRat 3 1), (mkRat 1 1))] hk rfl (by simp)
 have SM := fun (A B : Option Addr) (ca cb : Nat) (W : World) hA hB => lw_same [((mkRat 1 1), (mkRat 1 1), (mkRat 1 1), (mkRat 3 1), (mkRat 1 1)), ((mkRat 5 1), (mkRat 1 1), (mkRat 5 1), (mkRat 3 1), (mkRat 1 1)), ((mkRat 1 1), (mkRat 1 1), (mkRat 5 1), (mkRat 1 1), (mkRat 1 1)), ((mkRat 1 1), (mkRat 3 1), (mkRat 5 1), (mkRat 3 1), (mkRat 1 1))] A B ca cb W hA hB (by simp)
 obtain ⟨L, hL⟩ : ∃ l : List Ps, [((mkRat 1 1), (mkRat 1 1), (mkRat 1 1), (mkRat 3 1), (mkRat 1 1)), ((mkRat 5 1), (mkRat 1 1), (mkRat 5 1), (mkRat 3 1), (mkRat 1 1)), ((mkRat 1 1), (mkRat 1 1), (mkRat 5 1), (mkRat 1 1), (mkRat 1 1)), ((mkRat 1 1), (mkRat 3 1), (mkRat 5 1), (mkRat 3 1), (mkRat 1 1))] = l := ⟨_, rfl⟩
 have hl4 : L.length = 4 := by rw [← hL]; rfl
 rw [hL] at PO FB SM
 simp only [hl4] at SM FB
 clear hL
 generalize reachR (Pkt.of (mkRat 0 1) (mkRat 0 1) (mkRat 6 1) (mkRat 4 1) (mkRat 1 1)) = RG at *
 rw [show (1 : Int).toNat = 1 from rfl] at r01 r11 r61 r41
 rw [show (4 : Int).toNat = 4 from rfl] at r14
 rw [show (2 : Int).toNat = 2 from rfl] at r52
 unfold rv psv at *
 generalize mkRat 0 1 = q0 at *
 generalize mkRat 1 1 = q1 at *
 generalize mkRat 6 1 = q6 at *
 generalize mkRat 4 1 = q4 at *
 generalize mkRat 1 4 = q14 at *
 generalize mkRat 5 2 = q52 at *
 generalize mkRat 3 1 = q3 at *
 generalize mkRat 5 1 = q5 at *
 generalize itx q0.num = z1 at *
 generalize itx (q0.den : Int) = z2 at *
 generalize itx q1.num = o1 at *
 generalize itx (q1.den : Int) = o2 at *
 generalize itx q6.num = s1 at *
 generalize itx (q6.den : Int) = s2 at *
 generalize itx q4.num = f1 at *
 generalize itx (q4.den : Int) = f2 at *
 generalize itx q14.num = t1 at *
 generalize itx (q14.den : Int) = t2 at *
 generalize itx q52.num = h1 at *
 generalize itx (q52.den : Int) = h2 at *
 generalize itx q3.num = u1 at *
 generalize itx (q3.den : Int) = u2 at *
 generalize itx q5.num = v1 at *
 generalize itx (q5.den : Int) = v2 at *
 have T1 : True := trivial
 have hB0 := Below.refl w.heap.size w
 go_enter Tryz.func6, Tryz.ntmps6
 go_wp2_with (first | (go_at_call 8; clear T1; refine (r01 _).mono ?_; rintro e w1 ⟨rfl, hb1⟩; have hB1 := bZa (bZs hB0 hb1) (.cells #[.string z1, .string z2] 25); have KZ1 := Blk.new w1 #[.string z1, .string z2] 25) | (go_at_call 8; refine (r11 _).mono ?_; rintro e w2 ⟨rfl, hb2⟩; have hB2 := bZa (bZs hB1 hb2) (.cells #[.string o1, .string o2] 25); have KZ2 := (KZ1.below hb2).alloc (.cells #[.string o1, .string o2] 25); have KO2 := Blk.new w2 #[.string o1, .string o2] 25))
 have hB3 := bZd hB2
 have KZ := KZ2.drew
 have KO := KO2.drew
 generalize (w2.alloc (.cells #[.string o1, .string o2] 25)) = w3 at *
 generalize w1.heap.size = bz at *
 generalize w2.heap.size = bo at *
 clear hB0 hB1 hB2 hb1 hb2 KZ1 KZ2 KO2 r01 r11
 refine rZu (fun i => i == 6 || i == 7 || i == 8 || i == 9 || i == 10 || i == 11) (fun W => Below w3.drew.heap.size w3.drew W) (by kernel_rfl) (cZb _) (Below.refl _ _) ?_
 refine wpU_f 0 17 (h1 := by intro W hW; have e0 := (KZ.below hW).cell 0; have e1 := (KZ.below hW).cell 1; go_simp; try rfl) (h3 := ?_)
 refine wpU_f 1 18 (h1 := by intro W hW; have e0 := (KZ.below hW).cell 0; have e1 := (KZ.below hW).cell 1; go_simp; try rfl) (h3 := ?_)
 refine wpU_f 4 21 (h1 := by intro W hW; have e0 := (KO.below hW).cell 0; have e1 := (KO.below hW).cell 1; go_simp; try rfl) (h3 := ?_)
 refine wpU_f 5 22 (h1 := by intro W hW; have e0 := (KO.below hW).cell 0; have e1 := (KO.below hW).cell 1; go_simp; try rfl) (h3 := ?_)
 refine wpU_ca 2 19 Tryz.func8 (fun W hW => r61 W) ?_
 refine wpU_ac ?_
 refine wpU_ca 3 20 Tryz.func8 (fun W hW => r41 W) ?_
 refine wpU_ac ?_
 refine wpU_late (by kernel_rfl) (fun W1 hW1 => ?_)
 have hB4 := bZs hB3 hW1
 have KZ4 := KZ.below hW1
 have KO4 := KO.below hW1
 clear KZ KO
 refine wpAny_step1 (i := 6) (by kernel_rfl) rfl (by rfl) (fun K hK => ?_)
 go_simp
 go_at_call 11
 refine (PO _ (hp.below hB4) (hP.below hB4 hh0)).mono ?_
 rintro e w5 ⟨PA, pm, pc, rfl, HL, hb5⟩
 refine hK _ _ ?_
 clear hK K PO
 obtain ⟨hpm, -, hPq⟩ := Kd.R_reads' HL
 rw [hl4] at hpm hPq
 subst hpm
 have hB5 := bZs hB4 hb5
 have HLq := Kd.C_drew hPq
 have KZ := (KZ4.below hb5).drew
 have KO := (KO4.below hb5).drew
 have hB6 := bZd hB5
 clear hb5 KZ4 KO4 hB4 hB5 HL hPq
 refine wpAny_of_C (C := fun _ => True) (ex := fun i => i == 11) _ _ _ _ ?_
 refine wZt (i := 7) rfl (by kernel_rfl) (by kernel_rfl) (by kernel_rfl) (by kernel_rfl) (fun _ _ _ _ h => h) trivial (by rfl) ?_
 apply Exists.intro
 refine ⟨fun W hW => ?_, ?_⟩
 ·go_simp
  try rfl
 refine wZt (i := 8) rfl (by kernel_rfl) (by kernel_rfl) (by kernel_rfl) (by kernel_rfl) (fun _ _ _ _ h => h) trivial (by rfl) ?_
 apply Exists.intro
 refine ⟨fun W hW => ?_, ?_⟩
 ·go_simp
  try rfl
 refine wZt (i := 9) rfl (by kernel_rfl) (by kernel_rfl) (by kernel_rfl) (by kernel_rfl) (fun _ _ _ _ h => h) trivial (by rfl) ?_
 apply Exists.intro
 refine ⟨fun W hW => ?_, ?_⟩
 ·go_simp
  try rfl
 refine wZt (i := 10) rfl (by kernel_rfl) (by kernel_rfl) (by kernel_rfl) (by kernel_rfl) (fun _ _ _ _ h => h) trivial (by rfl) ?_
 apply Exists.intro
 refine ⟨fun W hW => ?_, ?_⟩
 ·go_simp
  try rfl
 refine wZs (i := 11) (by kernel_rfl) rfl (fun K hK => ?_)
 go_simp
 refine hK _ _ (fun _ => trivial) ?_
 clear hK K
 refine wpAnyC_done (by kernel_rfl) ?_ _
 go_wp2
 refine rZu (fun i => i == 5 || i == 6 || i == 7 || i == 8 || i == 10 || i == 11) (fun W => Below w5.drew.heap.size w5.drew W) (by kernel_rfl) (cZb _) (Below.refl _ _) ?_
 refine wpU_f 0 27 (h1 := by intro W hW; have e0 := (KZ.below hW).cell 0; have e1 := (KZ.below hW).cell 1; go_simp; try rfl) (h3 := ?_)
 refine wpU_f 1 28 (h1 := by intro W hW; have e0 := (KZ.below hW).cell 0; have e1 := (KZ.below hW).cell 1; go_simp; try rfl) (h3 := ?_)
 refine wpU_f 4 31 (h1 := by intro W hW; have e0 := (KO.below hW).cell 0; have e1 := (KO.below hW).cell 1; go_simp; try rfl) (h3 := ?_)
 refine wpU_ca 2 29 Tryz.func8 (fun W hW => r61 W) ?_
 refine wpU_ac ?_
 refine wpU_ca 3 30 Tryz.func8 (fun W hW => r41 W) ?_
 refine wpU_ac ?_
 refine wpU_cn (i := 5) (k := 9) (d := some 5) (fun n => .pointer (some ⟨n, 0, none⟩)) #[.slice none 0 0, .slice none 0 0] 42 (by kernel_rfl) rfl rfl rfl (by rfl) (fun W => ?_) (fun W1 hW1 => ?_) (fun g hg => ?_)
 ·go_simp
  try rfl
 ·have hB7 := bZs hB6 hW1
  refine wpOp_in rfl (by rfl) ?_
  go_simp
  go_at_call 14
  refine (RE _ (hp.below hB7) (hP.below hB7 hh0)).mono ?_
  rintro e w8 ⟨v8, rfl, ⟨xx, yy, rfl, HX, HY⟩, hb8⟩
  obtain ⟨XA, xc, ex⟩ := Kd.R_slice HX
  obtain ⟨YA, yc, ey⟩ := Kd.R_slice HY
  subst ex ey
  have hB8 := bZs hB7 hb8
  have HR8 : OwnR w8 _ (.agg #[.slice XA RG.1.length xc, .slice YA RG.2.length yc]) RG := ⟨_, _, rfl, HX, HY⟩
  clear HX HY
  refine wpAny_of_C (C := fun _ => True) (ex := fun i => i == 11) _ _ _ _ ?_
  refine wZt (i := 6) rfl (by kernel_rfl) (by kernel_rfl) (by kernel_rfl) (by kernel_rfl) (fun _ _ _ _ h => h) trivial (by rfl) ?_
  apply Exists.intro
  refine ⟨fun W hW => ?_, ?_⟩
  ·go_simp
   try rfl
  refine wZt (i := 7) rfl (by kernel_rfl) (by kernel_rfl) (by kernel_rfl) (by kernel_rfl) (fun _ _ _ _ h => h) trivial (by rfl) ?_
  apply Exists.intro
  refine ⟨fun W hW => ?_, ?_⟩
  ·go_simp
   try rfl
  refine wZt (i := 8) rfl (by kernel_rfl) (by kernel_rfl) (by kernel_rfl) (by kernel_rfl) (fun _ _ _ _ h => h) trivial (by rfl) ?_
  apply Exists.intro
  refine ⟨fun W hW => ?_, ?_⟩
  ·go_simp
   try rfl
  refine wZs (i := 9) (by kernel_rfl) rfl (fun K hK => ?_)
  go_simp
  refine hK _ _ (fun _ => trivial) ?_
  clear hK K
  refine wZs (i := 10) (by kernel_rfl) rfl (fun K hK => ?_)
  go_simp
  refine hK _ _ (fun _ => trivial) ?_
  clear hK K
  refine wZs (i := 11) (by kernel_rfl) rfl (fun K hK => ?_)
  go_simp
  refine hK _ _ (fun _ => trivial) ?_
  clear hK K
  refine wpAnyC_done (by kernel_rfl) ?_ _
  have KR := Blk.new w8 #[.slice XA RG.1.length xc, .slice YA RG.2.length yc] 42
  have HRR := (HR8.rd).below (bZa (Below.refl _ _) (.cells #[.slice XA RG.1.length xc, .slice YA RG.2.length yc] 42))
  have hbAll := bZa (bZs hW1 hb8) (.cells #[.slice XA RG.1.length xc, .slice YA RG.2.length yc] 42)
  generalize w8.heap.size = g at *
  generalize (w8.alloc (.cells #[.slice XA RG.1.length xc, .slice YA RG.2.length yc] 42)) = wR at *
  clear hB7 hB8 hb8 hW1 HR8
  have KZR := KZ.below hbAll
  have KOR := KO.below hbAll
  have HLR := Kd.C_below HLq hbAll
  have HBR := bZs hB6 hbAll
  clear KZ KO HLq hB6 hbAll
  obtain ⟨k0, k1, _, _⟩ := KR.two
  obtain ⟨k2, k3, _, _⟩ := KZR.two
  obtain ⟨k4, k5, _, _⟩ := KOR.two
  go_wp2_with (go_at_call 17; refine (C1 _ _ (hp.below HBR) HRR).mono ?_; rintro e w9 ⟨rfl, hb9⟩)
  have hB9d := bZd (bZs HBR hb9)
  have KR9 := (KR.below hb9).drew
  have HR9 : RdR w9.drew _ _ := (HRR.below hb9).below (bZd (Below.refl _ _))
  have KZ9 := (KZR.below hb9).drew
  have KO9 := (KOR.below hb9).drew
  have HL9 := Kd.C_drew (Kd.C_below HLR hb9)
  clear KR HRR KZR KOR HLR HBR hb9 k0 k1 k2 k3 k4 k5
  refine rZu (fun _ => false) (fun W => Below w9.drew.heap.size w9.drew W) (by kernel_rfl) (cZb _) (Below.refl _ _) ?_
  refine wpU_f 0 43 (h1 := by intro W hW; have e0 := (KR9.below hW).cell 0; have e1 := (KR9.below hW).cell 1; go_simp; try rfl) (h3 := ?_)
  refine wpU_ca 1 44 Tryz.func8 (fun W hW => r14 W) ?_
  refine wpU_ac ?_
  refine wpU_ca 2 45 Tryz.func8 (fun W hW => r14 W) ?_
  refine wpU_ac ?_
  refine wpU_ca 3 46 Tryz.func17 (fun W hW => C2 _ W (hp.below (bZs hB9d hW)) (HR9.below hW)) ?_
  refine wpU_ac ?_
  apply wpU_e 4 42
  apply wpU_e 5 47
  apply wpU_e 6 48
  apply wpU_e 7 9
  apply wpU_e 8 10
  refine wpU_done (by kernel_rfl) (fun W1 hW1 => ?_) _
  go_simp
  obtain ⟨wa, hwa⟩ : ∃ W, W1 = W := ⟨_, rfl⟩
  subst hwa
  have hBa := bZd (bZs hB9d hW1)
  have KZa := (KZ9.below hW1).drew
  have KOa := (KO9.below hW1).drew
  have HLa := Kd.C_drew (Kd.C_below HL9 hW1)
  clear hB9d KR9 HR9 KZ9 KO9 HL9 hW1
  go_wp2
  refine rZu (fun _ => false) (fun W => Below W1.drew.heap.size W1.drew W) (by kernel_rfl) (cZb _) (Below.refl _ _) ?_
  refine wpU_f 0 50 (h1 := by intro W hW; have e0 := (KZa.below hW).cell 0; have e1 := (KZa.below hW).cell 1; go_simp; try rfl) (h3 := ?_)
  refine wpU_f 1 51 (h1 := by intro W hW; have e0 := (KZa.below hW).cell 0; have e1 := (KZa.below hW).cell 1; go_simp; try rfl) (h3 := ?_)
  refine wpU_f 4 54 (h1 := by intro W hW; have e0 := (KOa.below hW).cell 0; have e1 := (KOa.below hW).cell 1; go_simp; try rfl) (h3 := ?_)
  refine wpU_ca 2 52 Tryz.func8 (fun W hW => r61 W) ?_
  refine wpU_ac ?_
  refine wpU_ca 3 53 Tryz.func8 (fun W hW => r41 W) ?_
  refine wpU_ac ?_
  refine wpU_ca 5 55 Tryz.func8 (fun W hW => r52 W) ?_
  refine wpU_ac ?_
  refine wpU_ca 6 56 Tryz.func11 (fun W hW => PB W (hp.below (bZs hBa hW)) (hP.below (bZs hBa hW) hh0)) ?_
  refine wpU_ac ?_
  apply wpU_e 7 49
  apply wpU_e 8 57
  apply wpU_e 9 58
  apply wpU_e 10 11
  apply wpU_e 11 12
  refine wpU_done (by kernel_rfl) (fun W2 hW2 => ?_) _
  go_simp
  have HLx := Kd.C_below HLa hW2
  have HBx := bZs hBa hW2
  clear KZa KOa HLa hBa hW2
  have TK1 : True := trivial
  have TK2 : True := trivial
  have TK3 : True := trivial
  have TK4 : True := trivial
  go_wp2_with ((first | (go_at_call 24; clear TK1; refine (p1 _).mono ?_; rintro e x1 ⟨rfl, hbx⟩) | (go_at_call 24; clear TK2; refine (p2 _).mono ?_; rintro e x2 ⟨rfl, hbx⟩) | (go_at_call 24; clear TK3; refine (p3 _).mono ?_; rintro e x3 ⟨rfl, hbx⟩) | (go_at_call 24; clear TK4; refine (p4 _).mono ?_; rintro e x4 ⟨rfl, hbx⟩) | (go_at_call 13; refine (SM _ _ _ _ _ (Kd.C_below HLx (bZa (Below.refl _ _) _)) (FB _ _ (Blk.new _ _ _))).mono ?_; rintro e x5 ⟨rfl, hb5⟩; replace HBx := bZs (bZa HBx (.cells #[.string o1, .string o2, .string o1, .string o2, .string o1, .string o2, .string u1, .string u2, .string o1, .string o2, .string v1, .string v2, .string o1, .string o2, .string v1, .string v2, .string u1, .string u2, .string o1, .string o2, .string o1, .string o2, .string o1, .string o2, .string v1, .string v2, .string o1, .string o2, .string o1, .string o2, .string o1, .string o2, .string u1, .string u2, .string v1, .string v2, .string u1, .string u2, .string o1, .string o2] 61)) hb5)); (try replace HLx := Kd.C_below HLx hbx); (try replace HBx := bZs HBx hbx); (try clear hbx))
  go_ret
  exact ⟨rfl, HBx⟩
 ·refine wpU_ac ?_
  refine wpU_late (by kernel_rfl) (fun W1 hW1 => ?_)
  have hgw : w5.drew.heap.size ≤ g := by
   obtain ⟨Wa, h, e⟩ := hg
   rw [e]
   exact bZz h
  clear hg
  have hB7 := bZs hB6 hW1.1
  have KG7 := hW1.2
  refine wpAny_step1 (i := 5) (by kernel_rfl) rfl (by rfl) (fun K hK => ?_)
  go_simp
  go_at_call 14
  refine (RE _ (hp.below hB7) (hP.below hB7 hh0)).mono ?_
  rintro e w8 ⟨v8, rfl, ⟨xx, yy, rfl, HX, HY⟩, hb8⟩
  obtain ⟨XA, xc, ex⟩ := Kd.R_slice HX
  obtain ⟨YA, yc, ey⟩ := Kd.R_slice HY
  subst ex ey
  have hB8 := bZs hB7 hb8
  have HR8 : OwnR w8 _ (.agg #[.slice XA RG.1.length xc, .slice YA RG.2.length yc]) RG := ⟨_, _, rfl, HX, HY⟩
  clear HX HY
  refine hK _ _ ?_
  clear hK K
  have KG8 := KG7.below hb8
  obtain ⟨r0, r1, rz0, rz1⟩ := KG8.two
  refine wpAny_of_C (C := fun _ => True) (ex := fun i => i == 11) _ _ _ _ ?_
  refine wZt (i := 6) rfl (by kernel_rfl) (by kernel_rfl) (by kernel_rfl) (by kernel_rfl) (fun _ _ _ _ h => h) trivial (by rfl) ?_
  apply Exists.intro
  refine ⟨fun W hW => ?_, ?_⟩
  ·go_simp
   try rfl
  refine wZt (i := 7) rfl (by kernel_rfl) (by kernel_rfl) (by kernel_rfl) (by kernel_rfl) (fun _ _ _ _ h => h) trivial (by rfl) ?_
  apply Exists.intro
  refine ⟨fun W hW => ?_, ?_⟩
  ·go_simp
   try rfl
  refine wZt (i := 8) rfl (by kernel_rfl) (by kernel_rfl) (by kernel_rfl) (by kernel_rfl) (fun _ _ _ _ h => h) trivial (by rfl) ?_
  apply Exists.intro
  refine ⟨fun W hW => ?_, ?_⟩
  ·go_simp
   try rfl
  refine wZs (i := 10) (by kernel_rfl) rfl (fun K hK => ?_)
  go_simp
  refine hK _ _ (fun _ => trivial) ?_
  clear hK K
  refine wZs (i := 11) (by kernel_rfl) rfl (fun K hK => ?_)
  go_simp
  refine hK _ _ (fun _ => trivial) ?_
  clear hK K
  refine wpAnyC_done (by kernel_rfl) ?_ _
  have KR : Blk ((w8.setCell ⟨g, 0, none⟩ (.slice XA RG.1.length xc)).setCell ⟨g, 1, none⟩ (.slice YA RG.2.length yc)) g #[.slice XA RG.1.length xc, .slice YA RG.2.length yc] 42 := (KG8.set 0 _).set 1 _
  have HRR := (OwnR.set (OwnR.set HR8 KG8 (by decide) (by decide) 0 (.slice XA RG.1.length xc)) (KG8.set 0 _) (by decide) (by decide) 1 (.slice YA RG.2.length yc)).rd
  have hbAll := bZe (g := g) (j := 1) (v := .slice YA RG.2.length yc) (bZe (g := g) (j := 0) (v := .slice XA RG.1.length xc) (bZs hW1.1 hb8) hgw) hgw
  generalize ((w8.setCell ⟨g, 0, none⟩ (.slice XA RG.1.length xc)).setCell ⟨g, 1, none⟩ (.slice YA RG.2.length yc)) = wR at *
  clear hB7 hB8 hb8 hW1 HR8 KG7 KG8 hgw r0 r1 rz0 rz1
  have KZR := KZ.below hbAll
  have KOR := KO.below hbAll
  have HLR := Kd.C_below HLq hbAll
  have HBR := bZs hB6 hbAll
  clear KZ KO HLq hB6 hbAll
  obtain ⟨k0, k1, _, _⟩ := KR.two
  obtain ⟨k2, k3, _, _⟩ := KZR.two
  obtain ⟨k4, k5, _, _⟩ := KOR.two
  go_wp2_with (go_at_call 17; refine (C1 _ _ (hp.below HBR) HRR).mono ?_; rintro e w9 ⟨rfl, hb9⟩)
  have hB9d := bZd (bZs HBR hb9)
  have KR9 := (KR.below hb9).drew
  have HR9 : RdR w9.drew _ _ := (HRR.below hb9).below (bZd (Below.refl _ _))
  have KZ9 := (KZR.below hb9).drew
  have KO9 := (KOR.below hb9).drew
  have HL9 := Kd.C_drew (Kd.C_below HLR hb9)
  clear KR HRR KZR KOR HLR HBR hb9 k0 k1 k2 k3 k4 k5
  refine rZu (fun _ => false) (fun W => Below w9.drew.heap.size w9.drew W) (by kernel_rfl) (cZb _) (Below.refl _ _) ?_
  refine wpU_f 0 43 (h1 := by intro W hW; have e0 := (KR9.below hW).cell 0; have e1 := (KR9.below hW).cell 1; go_simp; try rfl) (h3 := ?_)
  refine wpU_ca 1 44 Tryz.func8 (fun W hW => r14 W) ?_
  refine wpU_ac ?_
  refine wpU_ca 2 45 Tryz.func8 (fun W hW => r14 W) ?_
  refine wpU_ac ?_
  refine wpU_ca 3 46 Tryz.func17 (fun W hW => C2 _ W (hp.below (bZs hB9d hW)) (HR9.below hW)) ?_
  refine wpU_ac ?_
  apply wpU_e 4 42
  apply wpU_e 5 47
  apply wpU_e 6 48
  apply wpU_e 7 9
  apply wpU_e 8 10
  refine wpU_done (by kernel_rfl) (fun W1 hW1 => ?_) _
  go_simp
  obtain ⟨wa, hwa⟩ : ∃ W, W1 = W := ⟨_, rfl⟩
  subst hwa
  have hBa := bZd (bZs hB9d hW1)
  have KZa := (KZ9.below hW1).drew
  have KOa := (KO9.below hW1).drew
  have HLa := Kd.C_drew (Kd.C_below HL9 hW1)
  clear hB9d KR9 HR9 KZ9 KO9 HL9 hW1
  go_wp2
  refine rZu (fun _ => false) (fun W => Below W1.drew.heap.size W1.drew W) (by kernel_rfl) (cZb _) (Below.refl _ _) ?_
  refine wpU_f 0 50 (h1 := by intro W hW; have e0 := (KZa.below hW).cell 0; have e1 := (KZa.below hW).cell 1; go_simp; try rfl) (h3 := ?_)
  refine wpU_f 1 51 (h1 := by intro W hW; have e0 := (KZa.below hW).cell 0; have e1 := (KZa.below hW).cell 1; go_simp; try rfl) (h3 := ?_)
  refine wpU_f 4 54 (h1 := by intro W hW; have e0 := (KOa.below hW).cell 0; have e1 := (KOa.below hW).cell 1; go_simp; try rfl) (h3 := ?_)
  refine wpU_ca 2 52 Tryz.func8 (fun W hW => r61 W) ?_
  refine wpU_ac ?_
  refine wpU_ca 3 53 Tryz.func8 (fun W hW => r41 W) ?_
  refine wpU_ac ?_
  refine wpU_ca 5 55 Tryz.func8 (fun W hW => r52 W) ?_
  refine wpU_ac ?_
  refine wpU_ca 6 56 Tryz.func11 (fun W hW => PB W (hp.below (bZs hBa hW)) (hP.below (bZs hBa hW) hh0)) ?_
  refine wpU_ac ?_
  apply wpU_e 7 49
  apply wpU_e 8 57
  apply wpU_e 9 58
  apply wpU_e 10 11
  apply wpU_e 11 12
  refine wpU_done (by kernel_rfl) (fun W2 hW2 => ?_) _
  go_simp
  have HLx := Kd.C_below HLa hW2
  have HBx := bZs hBa hW2
  clear KZa KOa HLa hBa hW2
  have TK1 : True := trivial
  have TK2 : True := trivial
  have TK3 : True := trivial
  have TK4 : True := trivial
  go_wp2_with ((first | (go_at_call 24; clear TK1; refine (p1 _).mono ?_; rintro e _ ⟨rfl, hbx⟩) | (go_at_call 24; clear TK2; refine (p2 _).mono ?_; rintro e _ ⟨rfl, hbx⟩) | (go_at_call 24; clear TK3; refine (p3 _).mono ?_; rintro e _ ⟨rfl, hbx⟩) | (go_at_call 24; clear TK4; refine (p4 _).mono ?_; rintro e _ ⟨rfl, hbx⟩) | (go_at_call 13; refine (SM _ _ _ _ _ (Kd.C_below HLx (bZa (Below.refl _ _) _)) (FB _ _ (Blk.new _ _ _))).mono ?_; rintro e _ ⟨rfl, hb5⟩; replace HBx := bZs (bZa HBx (.cells #[.string o1, .string o2, .string o1, .string o2, .string o1, .string o2, .string u1, .string u2, .string o1, .string o2, .string v1, .string v2, .string o1, .string o2, .string v1, .string v2, .string u1, .string u2, .string o1, .string o2, .string o1, .string o2, .string o1, .string o2, .string v1, .string v2, .string o1, .string o2, .string o1, .string o2, .string o1, .string o2, .string u1, .string u2, .string v1, .string v2, .string u1, .string u2, .string o1, .string o2] 61)) hb5)); (try replace HLx := Kd.C_below HLx hbx); (try replace HBx := bZs HBx hbx); (try clear hbx))
  go_ret
  exact ⟨rfl, HBx⟩
theorem mk_lt' {n m : Int} (h : n < m) : mkRat n 4 < mkRat m 4 := by
 rw [Rat.mkRat_eq_div, Rat.mkRat_eq_div, Rat.div_def, Rat.div_def]
 refine (Rat.mul_lt_mul_right (by decide +kernel)).2 ?_
 exact Rat.intCast_lt_intCast.2 h
theorem mk_pos' {n : Int} (h : 0 < n) : 0 < mkRat n 4 := by
 have := mk_lt' h
 rwa [show mkRat 0 4 = 0 from by decide +kernel] at this
theorem inp_of' {x y wd dp rr : Int} : Inp (mkRat (cX x) 4) (mkRat (cX y) 4) (mkRat (cW x wd) 4) (mkRat (cW y dp) 4) (mkRat (cR rr) 4) ∧ smP 10 (Pkt.of (mkRat (cX x) 4) (mkRat (cX y) 4) (mkRat (cW x wd) 4) (mkRat (cW y dp) 4) (mkRat (cR rr) 4)) := by
 have bx := pickI_bound (c := x) (n := 41) (by decide)
 have by' := pickI_bound (c := y) (n := 41) (by decide)
 have bw := pickI_bound (c := wd) (n := 32) (by decide)
 have bd := pickI_bound (c := dp) (n := 32) (by decide)
 have br := pickI_bound (c := rr) (n := 10) (by decide)
 unfold cX cW cR
 have h0 : Sm 2 (mkRat (pickI x 41 - 20) 4) := sm_q (by omega)
 have h1 : Sm 2 (mkRat (pickI y 41 - 20) 4) := sm_q (by omega)
 have h2 : Sm 2 (mkRat (pickI x 41 - 20 + 1 + pickI wd 32) 4) := sm_q (by omega)
 have h3 : Sm 2 (mkRat (pickI y 41 - 20 + 1 + pickI dp 32) 4) := sm_q (by omega)
 have h4 : Sm 2 (mkRat (1 + pickI rr 10) 4) := sm_q (by omega)
 exact ⟨⟨h0.le (by decide), h1.le (by decide), h2.le (by decide), h3.le (by decide), h4.le (by decide), mk_pos' (by omega), mk_lt' (by omega), mk_lt' (by omega)⟩, smP_of h0 h1 h2 h3 h4⟩
theorem fits_iff (x0 y0 x1 y1 r : Rat) : fitsP x0 y0 x1 y1 r = (decide (r + r ≤ x1 - x0) && decide (r + r ≤ y1 - y0)) := by
 unfold fitsP
 rw [Bool.eq_iff_iff]
 simp only [Bool.and_eq_true, Bool.not_eq_true', decide_eq_false_iff_not, decide_eq_true_eq]
 constructor
 ·rintro ⟨h1, h2⟩
  exact ⟨by grind, by grind⟩
 ·rintro ⟨h1, h2⟩
  exact ⟨by grind, by grind⟩
theorem cmp_gt0 {p q : Rat} (h : ¬ p ≤ q) : (cmpR p q ≤ 0) = False := by
 rw [cmp_gt1 (by grind)]
 decide
theorem lr_bad (x y wd dp rr v0 v1 v2 : Int) (pa : Addr) (w : World) (hp : Pow w) (hP : Plan w pa) (hx : i64 x) (hy : i64 y) (hw : i64 wd) (hd : i64 dp) (hr : i64 rr) (hf : fitsP (mkRat (cX x) 4) (mkRat (cX y) 4) (mkRat (cW x wd) 4) (mkRat (cW y dp) 4) (mkRat (cR rr) 4) = false) :
  Calls Tryz.prog 5 #[.agg #[.int .i64 x, .int .i64 y, .int .i64 wd, .int .i64 dp, .int .i64 rr], .agg #[.int .i64 v0, .int .i64 v1, .int .i64 v2]] w fun e w' => e = .returned (.bool true) ∧ Below w.heap.size w w' := by
 have SN := fun W hp hP => lw_sane pa W hp hP
 have hh0 : 0 < w.heap.size := World.block_lt_of_cell? _ _ hP
 have CN := fun W => lw_corners x y wd dp rr W hx hy hw hd hr
 have RZ := fun W => lw_ratio 0 1 W (by decide) (by decide) (by decide) (by decide)
 rw [show mkRat 0 (1 : Int).toNat = 0 from rfl, rv_zero] at RZ
 obtain ⟨hI, hM⟩ := inp_of' (x := x) (y := y) (wd := wd) (dp := dp) (rr := rr)
 have PO := fun W hp hP => pl_Pocket_bad (mkRat (cX x) 4) (mkRat (cX y) 4) (mkRat (cW x wd) 4) (mkRat (cW y dp) 4) 0 (mkRat (cR rr) 4) pa W hp hP hI sq_zero hf
 rw [rv_zero] at PO
 have RE := fun W hp hP => pl_Reachable_bad (mkRat (cX x) 4) (mkRat (cX y) 4) (mkRat (cW x wd) 4) (mkRat (cW y dp) 4) (mkRat (cR rr) 4) pa W hp hP hI hf
 have sU0 : Sm 10 (mkRat (cX x) 4) := hM.x0
 have sU1 : Sm 10 (mkRat (cX y) 4) := hM.y0
 have sU2 : Sm 10 (mkRat (cW x wd) 4) := hM.x1
 have sU3 : Sm 10 (mkRat (cW y dp) 4) := hM.y1
 have sU4 : Sm 10 (mkRat (cR rr) 4) := hM.r
 clear hI hM
 rw [fits_iff] at hf
 generalize mkRat (cX x) 4 = u0 at *
 generalize mkRat (cX y) 4 = u1 at *
 generalize mkRat (cW x wd) 4 = u2 at *
 generalize mkRat (cW y dp) 4 = u3 at *
 generalize mkRat (cR rr) 4 = u4 at *
 have AD := fun W hp => rat_Add u4 u4 W hp (sU4.le (by decide)) (sU4.le (by decide))
 have S1 := fun W hp => rat_Sub u2 u0 W hp (sU2.le (by decide)) (sU0.le (by decide))
 have S2 := fun W hp => rat_Sub u3 u1 W hp (sU3.le (by decide)) (sU1.le (by decide))
 have C1 := fun W hp => rat_Compare (u4 + u4) (u2 - u0) W hp ((sm_add sU4 sU4).le (by decide)) ((sm_sub sU2 sU0).le (by decide))
 have C2 := fun W hp => rat_Compare (u4 + u4) (u3 - u1) W hp ((sm_add sU4 sU4).le (by decide)) ((sm_sub sU3 sU1).le (by decide))
 clear sU0 sU1 sU2 sU3 sU4 hx hy hw hd hr
 rcases Classical.em (u4 + u4 ≤ u2 - u0) with h1 | h1
 ·have h2 : ¬ u4 + u4 ≤ u3 - u1 := by
   intro h2
   rw [decide_eq_true h1, decide_eq_true h2] at hf
   exact absurd hf (by decide)
  clear hf
  have g1 : (cmpR (u4 + u4) (u2 - u0) ≤ 0) = True := eq_true (of_decide_eq_true (by rw [cmp_le0]; exact decide_eq_true h1))
  have g2 := cmp_gt0 h2
  generalize cmpR (u4 + u4) (u2 - u0) = m1 at *
  generalize cmpR (u4 + u4) (u3 - u1) = m2 at *
  clear h1 h2
  unfold rv rcv at *
  generalize u4 + u4 = tt at *
  generalize u2 - u0 = ss at *
  generalize u3 - u1 = uu at *
  generalize itx u0.num = a1 at *
  generalize itx (u0.den : Int) = a2 at *
  generalize itx u1.num = b1 at *
  generalize itx (u1.den : Int) = b2 at *
  generalize itx u2.num = c1 at *
  generalize itx (u2.den : Int) = c2 at *
  generalize itx u3.num = d1 at *
  generalize itx (u3.den : Int) = d2 at *
  generalize itx u4.num = e1 at *
  generalize itx (u4.den : Int) = e2 at *
  generalize itx tt.num = t1 at *
  generalize itx (tt.den : Int) = t2 at *
  generalize itx ss.num = s1 at *
  generalize itx (ss.den : Int) = s2 at *
  generalize itx uu.num = u1 at *
  generalize itx (uu.den : Int) = u2 at *
  obtain ⟨hB0, k0, k1⟩ := news2 w #[.int .i64 x, .int .i64 y, .int .i64 wd, .int .i64 dp, .int .i64 rr] 23 #[.int .i64 v0, .int .i64 v1, .int .i64 v2] 47
  have K0 := k0
  have K1 := k1
  have HB := hB0
  clear k0 k1 hB0
  have K0c0 := K0.c0
  have K0c1 := K0.c1
  have K0c2 := K0.c2
  have K0c3 := K0.c3
  have K0c4 := K0.c4
  have K1c0 := K1.c0
  have K1c1 := K1.c1
  have K1c2 := K1.c2
  go_enter Tryz.func5, Tryz.ntmps5
  go_wp2_with ((first | (go_at_call 6; refine (SN _ (hp.below HB) (hP.below HB hh0)).mono ?_; clear SN; rintro e w1 ⟨rfl, hb⟩) | (go_at_call 7; refine (CN _).mono ?_; clear CN; rintro e w2 ⟨rfl, hb⟩; replace hb := bZa hb (.cells #[.string a1, .string a2, .string b1, .string b2, .string c1, .string c2, .string d1, .string d2] 28); replace hb := bZa hb (.cells #[.string e1, .string e2] 25); have KC := (Blk.new w2 #[.string a1, .string a2, .string b1, .string b2, .string c1, .string c2, .string d1, .string d2] 28).alloc (.cells #[.string e1, .string e2] 25); have KR := Blk.new2 w2 #[.string a1, .string a2, .string b1, .string b2, .string c1, .string c2, .string d1, .string d2] #[.string e1, .string e2] 28 25) | (go_at_call 8; refine (RZ _).mono ?_; clear RZ; rintro e w3 ⟨rfl, hb⟩; replace hb := bZa hb (.cells #[.string ⟨#[48]⟩, .string ⟨#[49]⟩] 25); have KZ := Blk.new w3 #[.string ⟨#[48]⟩, .string ⟨#[49]⟩] 25) | (go_at_call 11; refine (PO _ (hp.below HB) (hP.below HB hh0)).mono ?_; clear PO; rintro e w4 ⟨rfl, hb⟩) | (go_at_call 14; refine (RE _ (hp.below HB) (hP.below HB hh0)).mono ?_; clear RE; rintro e w5 ⟨rfl, hb⟩; replace hb := bZa hb (.cells #[.slice none 0 0, .slice none 0 0] 42); have KG := Blk.new w5 #[.slice none 0 0, .slice none 0 0] 42) | (go_at_call 19; refine (AD _ (hp.below HB)).mono ?_; clear AD; rintro e w6 ⟨rfl, hb⟩; replace hb := bZa hb (.cells #[.string t1, .string t2] 25); have KT := Blk.new w6 #[.string t1, .string t2] 25) | (go_at_call 20; refine (S1 _ (hp.below HB)).mono ?_; clear S1; rintro e w7 ⟨rfl, hb⟩; replace hb := bZa hb (.cells #[.string s1, .string s2] 25); have KW := Blk.new w7 #[.string s1, .string s2] 25) | (go_at_call 20; refine (S2 _ (hp.below HB)).mono ?_; clear S2; rintro e w8 ⟨rfl, hb⟩; replace hb := bZa hb (.cells #[.string u1, .string u2] 25); have KE := Blk.new w8 #[.string u1, .string u2] 25) | (go_at_call 18; refine (C1 _ (hp.below HB)).mono ?_; clear C1; rintro e w9 ⟨rfl, hb⟩) | (go_at_call 18; refine (C2 _ (hp.below HB)).mono ?_; clear C2; rintro e _ ⟨rfl, hb⟩)); replace K0 := K0.below hb; replace K1 := K1.below hb; (try replace KC := KC.below hb); (try replace KR := KR.below hb); (try replace KZ := KZ.below hb); (try replace KG := KG.below hb); (try replace KT := KT.below hb); (try replace KW := KW.below hb); (try replace KE := KE.below hb); replace HB := bZs HB hb; replace K0c0 := K0.c0; replace K0c1 := K0.c1; replace K0c2 := K0.c2; replace K0c3 := K0.c3; replace K0c4 := K0.c4; replace K1c0 := K1.c0; replace K1c1 := K1.c1; replace K1c2 := K1.c2; (try replace KCc0 := KC.c0); (try replace KCc1 := KC.c1); (try replace KCc2 := KC.c2); (try replace KCc3 := KC.c3); (try replace KCc4 := KC.c4); (try replace KCc5 := KC.c5); (try replace KCc6 := KC.c6); (try replace KCc7 := KC.c7); (try replace KRc0 := KR.c0); (try replace KRc1 := KR.c1); (try replace KZc0 := KZ.c0); (try replace KZc1 := KZ.c1); (try replace KGc0 := KG.c0); (try replace KGc1 := KG.c1); (try replace KTc0 := KT.c0); (try replace KTc1 := KT.c1); (try replace KWc0 := KW.c0); (try replace KWc1 := KW.c1); (try replace KEc0 := KE.c0); (try replace KEc1 := KE.c1); clear hb)
  go_ret
  exact ⟨rfl, HB⟩
 ·clear hf
  have g1 := cmp_gt0 h1
  have e1_ := decide_eq_false (of_eq_false g1)
  generalize cmpR (u4 + u4) (u2 - u0) = m1 at *
  generalize cmpR (u4 + u4) (u3 - u1) = m2 at *
  clear h1
  unfold rv rcv at *
  generalize u4 + u4 = tt at *
  generalize u2 - u0 = ss at *
  generalize u3 - u1 = uu at *
  generalize itx u0.num = a1 at *
  generalize itx (u0.den : Int) = a2 at *
  generalize itx u1.num = b1 at *
  generalize itx (u1.den : Int) = b2 at *
  generalize itx u2.num = c1 at *
  generalize itx (u2.den : Int) = c2 at *
  generalize itx u3.num = d1 at *
  generalize itx (u3.den : Int) = d2 at *
  generalize itx u4.num = e1 at *
  generalize itx (u4.den : Int) = e2 at *
  generalize itx tt.num = t1 at *
  generalize itx (tt.den : Int) = t2 at *
  generalize itx ss.num = s1 at *
  generalize itx (ss.den : Int) = s2 at *
  generalize itx uu.num = u1 at *
  generalize itx (uu.den : Int) = u2 at *
  obtain ⟨hB0, k0, k1⟩ := news2 w #[.int .i64 x, .int .i64 y, .int .i64 wd, .int .i64 dp, .int .i64 rr] 23 #[.int .i64 v0, .int .i64 v1, .int .i64 v2] 47
  have K0 := k0
  have K1 := k1
  have HB := hB0
  clear k0 k1 hB0
  have K0c0 := K0.c0
  have K0c1 := K0.c1
  have K0c2 := K0.c2
  have K0c3 := K0.c3
  have K0c4 := K0.c4
  have K1c0 := K1.c0
  have K1c1 := K1.c1
  have K1c2 := K1.c2
  go_enter Tryz.func5, Tryz.ntmps5
  go_wp2_with ((first | (go_at_call 6; refine (SN _ (hp.below HB) (hP.below HB hh0)).mono ?_; clear SN; rintro e _ ⟨rfl, hb⟩) | (go_at_call 7; refine (CN _).mono ?_; clear CN; rintro e w2 ⟨rfl, hb⟩; replace hb := bZa hb (.cells #[.string a1, .string a2, .string b1, .string b2, .string c1, .string c2, .string d1, .string d2] 28); replace hb := bZa hb (.cells #[.string e1, .string e2] 25); have KC := (Blk.new w2 #[.string a1, .string a2, .string b1, .string b2, .string c1, .string c2, .string d1, .string d2] 28).alloc (.cells #[.string e1, .string e2] 25); have KR := Blk.new2 w2 #[.string a1, .string a2, .string b1, .string b2, .string c1, .string c2, .string d1, .string d2] #[.string e1, .string e2] 28 25) | (go_at_call 8; refine (RZ _).mono ?_; clear RZ; rintro e w3 ⟨rfl, hb⟩; replace hb := bZa hb (.cells #[.string ⟨#[48]⟩, .string ⟨#[49]⟩] 25); have KZ := Blk.new w3 #[.string ⟨#[48]⟩, .string ⟨#[49]⟩] 25) | (go_at_call 11; refine (PO _ (hp.below HB) (hP.below HB hh0)).mono ?_; clear PO; rintro e _ ⟨rfl, hb⟩) | (go_at_call 14; refine (RE _ (hp.below HB) (hP.below HB hh0)).mono ?_; clear RE; rintro e w5 ⟨rfl, hb⟩; replace hb := bZa hb (.cells #[.slice none 0 0, .slice none 0 0] 42); have KG := Blk.new w5 #[.slice none 0 0, .slice none 0 0] 42) | (go_at_call 19; refine (AD _ (hp.below HB)).mono ?_; clear AD; rintro e w6 ⟨rfl, hb⟩; replace hb := bZa hb (.cells #[.string t1, .string t2] 25); have KT := Blk.new w6 #[.string t1, .string t2] 25) | (go_at_call 20; refine (S1 _ (hp.below HB)).mono ?_; clear S1; rintro e w7 ⟨rfl, hb⟩; replace hb := bZa hb (.cells #[.string s1, .string s2] 25); have KW := Blk.new w7 #[.string s1, .string s2] 25) | (go_at_call 20; refine (S2 _ (hp.below HB)).mono ?_; clear S2; rintro e w8 ⟨rfl, hb⟩; replace hb := bZa hb (.cells #[.string u1, .string u2] 25); have KE := Blk.new w8 #[.string u1, .string u2] 25) | (go_at_call 18; refine (C1 _ (hp.below HB)).mono ?_; clear C1; rintro e _ ⟨rfl, hb⟩; replace KE := KE.below hb)); replace K0 := K0.below hb; replace K1 := K1.below hb; (try replace KC := KC.below hb); (try replace KR := KR.below hb); (try replace KZ := KZ.below hb); (try replace KG := KG.below hb); (try replace KT := KT.below hb); (try replace KW := KW.below hb); replace HB := bZs HB hb; replace K0c0 := K0.c0; replace K0c1 := K0.c1; replace K0c2 := K0.c2; replace K0c3 := K0.c3; replace K0c4 := K0.c4; replace K1c0 := K1.c0; replace K1c1 := K1.c1; replace K1c2 := K1.c2; (try replace KCc0 := KC.c0); (try replace KCc1 := KC.c1); (try replace KCc2 := KC.c2); (try replace KCc3 := KC.c3); (try replace KCc4 := KC.c4); (try replace KCc5 := KC.c5); (try replace KCc6 := KC.c6); (try replace KCc7 := KC.c7); (try replace KRc0 := KR.c0); (try replace KRc1 := KR.c1); (try replace KZc0 := KZ.c0); (try replace KZc1 := KZ.c1); (try replace KGc0 := KG.c0); (try replace KGc1 := KG.c1); (try replace KTc0 := KT.c0); (try replace KTc1 := KT.c1); (try replace KWc0 := KW.c0); (try replace KWc1 := KW.c1); (try replace KEc0 := KE.c0); (try replace KEc1 := KE.c1); clear hb)
  go_ret
  exact ⟨rfl, HB⟩
end Go.Proofs.YtociicfjhgfgpaaGreatDoor

/- The fixed examples: the walk. -/
import Derived.Test.YtociicfjhgfgpaaGreatDoorM46
import Derived.Test.YtociicfjhgfgpaaGreatDoorM47
set_option linter.unusedVariables false
set_option linter.unusedSimpArgs false
namespace Go.Proofs.YtociicfjhgfgpaaGreatDoor
open Go.RowKit Go.Shelf Go.Lib Go.Proofs.YtociicfjhgfgpaaGreatDoorW.PrintWords
theorem wpU_cn {P : Program} {ops : Array Oper} {Q : Exit → Act → World → Prop} {md : Region.Mode} {ex : Nat → Bool} {C : World → Prop} {i k : Nat} {ok : Oper} {fuel : Nat} {listed : Array Bool} {a : Act} {d : Option Tmp} (fv : Nat → Value) (cs : Array Value) (t : TypeId) (hr : Region.ready md ops listed = [i, k]) (hx : ex i = true) (hk : ops[k]? = some ok) (hd : ok.dst = d) (hw : Region.wanted ok (yielded ops a.tmps) = true) (hy : ∀ w, (execOp a.eval ok).run P w = .ok (.value (fv w.heap.size)) (w.alloc (.cells cs t)))
  (h1 : ∀ w, C w → wpOp P ops Q i (wpAny P md ops Q fuel (listed.setIfInBounds i true)) a w) (h2 : ∀ g, (∃ w, C w ∧ g = w.heap.size) → wpU P md ops Q ex fuel (fun W => C W ∧ Blk W g cs t) (listed.setIfInBounds k true) (a.put d (fv g))) : wpU P md ops Q ex (fuel + 1) C listed a := by
 subst hd
 refine ⟨fun h0 => (by rw [hr] at h0; cases h0), fun j hj => ?_⟩
 rw [hr] at hj
 simp only [List.mem_cons, List.not_mem_nil, or_false] at hj
 rcases hj with rfl | rfl
 ·exact .inl ⟨hx, h1⟩
 ·exact .inr (.inr ⟨ok, fv, cs, t, hk, ⟨hw, hy⟩, h2⟩)
set_option maxHeartbeats 32000000 in
set_option maxRecDepth 100000 in
theorem lw_sane (pa : Addr) (w : World) (hp : Pow w) (hP : Plan w pa) :
  Calls Tryz.prog 6 #[] w fun e w' => e = .returned (.bool true) ∧ Below w.heap.size w w' := by
 have hh0 : 0 < w.heap.size := World.block_lt_of_cell? _ _ hP
 have r01 := fun W => lw_ratio 0 1 W (by decide) (by decide) (by decide) (by decide)
 have r11 := fun W => lw_ratio 1 1 W (by decide) (by decide) (by decide) (by decide)
 have r61 := fun W => lw_ratio 6 1 W (by decide) (by decide) (by decide) (by decide)
 have r41 := fun W => lw_ratio 4 1 W (by decide) (by decide) (by decide) (by decide)
 have r14 := fun W => lw_ratio 1 4 W (by decide) (by decide) (by decide) (by decide)
 have r52 := fun W => lw_ratio 5 2 W (by decide) (by decide) (by decide) (by decide)
 have PO := fun W hp hP => pl_Pocket_ok (mkRat 0 1) (mkRat 0 1) (mkRat 6 1) (mkRat 4 1) (mkRat 1 1) (mkRat 1 1) pa W hp hP sn_inp ⟨by decide, by decide⟩ sn_one sn_fits
 have PB := fun W hp hP => pl_Pocket_bad (mkRat 0 1) (mkRat 0 1) (mkRat 6 1) (mkRat 4 1) (mkRat 1 1) (mkRat 5 2) pa W hp hP sn_inp2 ⟨by decide, by decide⟩ sn_not
 have RE := fun W hp hP => pl_Reachable_ok (mkRat 0 1) (mkRat 0 1) (mkRat 6 1) (mkRat 4 1) (mkRat 1 1) pa W hp hP sn_inp sn_fits
 have C1 := fun v W hp hv => rg_Contains 10 v (reachR (Pkt.of (mkRat 0 1) (mkRat 0 1) (mkRat 6 1) (mkRat 4 1) (mkRat 1 1))) (mkRat 0 1) (mkRat 1 1) W hp (by decide) (by decide) hv (reach_sz sn_r0).1 (reach_sm sn_smP) ⟨by decide, by decide⟩ ⟨by decide, by decide⟩
 have C2 := fun v W hp hv => rg_Contains 10 v (reachR (Pkt.of (mkRat 0 1) (mkRat 0 1) (mkRat 6 1) (mkRat 4 1) (mkRat 1 1))) (mkRat 1 4) (mkRat 1 4) W hp (by decide) (by decide) hv (reach_sz sn_r0).1 (reach_sm sn_smP) ⟨by decide, by decide⟩ ⟨by decide, by decide⟩
 rw [sn_in] at C1
 rw [sn_out] at C2
 rw [sn_rows] at PO
 have p1 := fun W => lw_pass 1 1 1 3 W (by decide)
 have p2 := fun W => lw_pass 5 1 5 3 W (by decide)
 have p3 := fun W => lw_pass 1 1 5 1 W (by decide)
 have p4 := fun W => lw_pass 1 3 5 3 W (by decide)
 have FB := fun (W : World) (g : Nat) (hk : Blk W g #[.string (itx (mkRat 1 1).num), .string (itx ((mkRat 1 1).den : Int)), .string (itx (mkRat 1 1).num), .string (itx ((mkRat 1 1).den : Int)), .string (itx (mkRat 1 1).num), .string (itx ((mkRat 1 1).den : Int)), .string (itx (mkRat 3 1).num), .string (itx ((mkRat 3 1).den : Int)), .string (itx (mkRat 1 1).num), .string (itx ((mkRat 1 1).den : Int)), .string (itx (mkRat 5 1).num), .string (itx ((mkRat 5 1).den : Int)), .string (itx (mkRat 1 1).num), .string (itx ((mkRat 1 1).den : Int)), .string (itx (mkRat 5 1).num), .string (itx ((mkRat 5 1).den : Int)), .string (itx (mkRat 3 1).num), .string (itx ((mkRat 3 1).den : Int)), .string (itx (mkRat 1 1).num), .string (itx ((mkRat 1 1).den : Int)), .string (itx (mkRat 1 1).num), .string (itx ((mkRat 1 1).den : Int)), .string (itx (mkRat 1 1).num), .string (itx ((mkRat 1 1).den : Int)), .string (itx (mkRat 5 1).num), .string (itx ((mkRat 5 1).den : Int)), .string (itx (mkRat 1 1).num), .string (itx ((mkRat 1 1).den : Int)), .string (itx (mkRat 1 1).num), .string (itx ((mkRat 1 1).den : Int)), .string (itx (mkRat 1 1).num), .string (itx ((mkRat 1 1).den : Int)), .string (itx (mkRat 3 1).num), .string (itx ((mkRat 3 1).den : Int)), .string (itx (mkRat 5 1).num), .string (itx ((mkRat 5 1).den : Int)), .string (itx (mkRat 3 1).num), .string (itx ((mkRat 3 1).den : Int)), .string (itx (mkRat 1 1).num), .string (itx ((mkRat 1 1).den : Int))] 61) => flat_blk (n := 10) (enc := encP) (hl := fun _ => rfl) (h1 := fun x u hu => by simp [encP] at hu; rcases hu with rfl | rfl | rfl | rfl | rfl | rfl | rfl | rfl | rfl | rfl <;> rfl) [((mkRat 1 1), (mkRat 1 1), (mkRat 1 1), (mkRat 3 1), (mkRat 1 1)), ((mkRat 5 1), (mkRat 1 1), (mkRat 5 1), (mkRat 3 1), (mkRat 1 1)), ((mkRat 1 1), (mkRat 1 1), (mkRat 5 1), (mkRat 1 1), (mkRat 1 1)), ((mkRat 1 1), (mkRat 3 1), (mkRat 5 1), (mkRat 3 1), (mkRat 1 1))] hk rfl (by simp)
 have SM := fun (A B : Option Addr) (ca cb : Nat) (W : World) hA hB => lw_same [((mkRat 1 1), (mkRat 1 1), (mkRat 1 1), (mkRat 3 1), (mkRat 1 1)), ((mkRat 5 1), (mkRat 1 1), (mkRat 5 1), (mkRat 3 1), (mkRat 1 1)), ((mkRat 1 1), (mkRat 1 1), (mkRat 5 1), (mkRat 1 1), (mkRat 1 1)), ((mkRat 1 1), (mkRat 3 1), (mkRat 5 1), (mkRat 3 1), (mkRat 1 1))] A B ca cb W hA hB (by simp)
 obtain ⟨L, hL⟩ : ∃ l : List Ps, [((mkRat 1 1), (mkRat 1 1), (mkRat 1 1), (mkRat 3 1), (mkRat 1 1)), ((mkRat 5 1), (mkRat 1 1), (mkRat 5 1), (mkRat 3 1), (mkRat 1 1)), ((mkRat 1 1), (mkRat 1 1), (mkRat 5 1), (mkRat 1 1), (mkRat 1 1)), ((mkRat 1 1), (mkRat 3 1), (mkRat 5 1), (mkRat 3 1), (mkRat 1 1))] = l := ⟨_, rfl⟩
 have hl4 : L.length = 4 := by rw [← hL]; rfl
 rw [hL] at PO FB SM
 simp only [hl4] at SM FB
 clear hL
 generalize reachR (Pkt.of (mkRat 0 1) (mkRat 0 1) (mkRat 6 1) (mkRat 4 1) (mkRat 1 1)) = RG at *
 rw [show (1 : Int).toNat = 1 from rfl] at r01 r11 r61 r41
 rw [show (4 : Int).toNat = 4 from rfl] at r14
 rw [show (2 : Int).toNat = 2 from rfl] at r52
 unfold rv psv at *
 generalize mkRat 0 1 = q0 at *
 generalize mkRat 1 1 = q1 at *
 generalize mkRat 6 1 = q6 at *
 generalize mkRat 4 1 = q4 at *
 generalize mkRat 1 4 = q14 at *
 generalize mkRat 5 2 = q52 at *
 generalize mkRat 3 1 = q3 at *
 generalize mkRat 5 1 = q5 at *
 generalize itx q0.num = z1 at *
 generalize itx (q0.den : Int) = z2 at *
 generalize itx q1.num = o1 at *
 generalize itx (q1.den : Int) = o2 at *
 generalize itx q6.num = s1 at *
 generalize itx (q6.den : Int) = s2 at *
 generalize itx q4.num = f1 at *
 generalize itx (q4.den : Int) = f2 at *
 generalize itx q14.num = t1 at *
 generalize itx (q14.den : Int) = t2 at *
 generalize itx q52.num = h1 at *
 generalize itx (q52.den : Int) = h2 at *
 generalize itx q3.num = u1 at *
 generalize itx (q3.den : Int) = u2 at *
 generalize itx q5.num = v1 at *
 generalize itx (q5.den : Int) = v2 at *
 have T1 : True := trivial
 have hB0 := Below.refl w.heap.size w
 go_enter Tryz.func6, Tryz.ntmps6
 go_wp2_with (first | (go_at_call 8; clear T1; refine (r01 _).mono ?_; rintro e w1 ⟨rfl, hb1⟩; have hB1 := below_alloc (below_step hB0 hb1) (.cells #[.string z1, .string z2] 25); have KZ1 := Blk.new w1 #[.string z1, .string z2] 25) | (go_at_call 8; refine (r11 _).mono ?_; rintro e w2 ⟨rfl, hb2⟩; have hB2 := below_alloc (below_step hB1 hb2) (.cells #[.string o1, .string o2] 25); have KZ2 := (KZ1.below hb2).alloc (.cells #[.string o1, .string o2] 25); have KO2 := Blk.new w2 #[.string o1, .string o2] 25))
 have hB3 := below_drew hB2
 have KZ := KZ2.drew
 have KO := KO2.drew
 generalize (w2.alloc (.cells #[.string o1, .string o2] 25)) = w3 at *
 generalize w1.heap.size = bz at *
 generalize w2.heap.size = bo at *
 clear hB0 hB1 hB2 hb1 hb2 KZ1 KZ2 KO2 r01 r11
 refine wp_region_U (fun i => i == 6 || i == 7 || i == 8 || i == 9 || i == 10 || i == 11) (fun W => Below w3.drew.heap.size w3.drew W) (by kernel_rfl) (closed_below _) (Below.refl _ _) ?_
 apply wpU_tk 0 (some 17)
 ·intro W hW
  have e0 := (KZ.below hW).cell 0; have e1 := (KZ.below hW).cell 1
  go_simp
  try rfl
 apply wpU_act
 apply Exists.intro
 refine ⟨?_, ?_⟩
 ·go_simp
  try rfl
 apply wpU_tk 1 (some 18)
 ·intro W hW
  have e0 := (KZ.below hW).cell 0; have e1 := (KZ.below hW).cell 1
  go_simp
  try rfl
 apply wpU_act
 apply Exists.intro
 refine ⟨?_, ?_⟩
 ·go_simp
  try rfl
 apply wpU_tk 4 (some 21)
 ·intro W hW
  have e0 := (KO.below hW).cell 0; have e1 := (KO.below hW).cell 1
  go_simp
  try rfl
 apply wpU_act
 apply Exists.intro
 refine ⟨?_, ?_⟩
 ·go_simp
  try rfl
 apply wpU_tk 5 (some 22)
 ·intro W hW
  have e0 := (KO.below hW).cell 0; have e1 := (KO.below hW).cell 1
  go_simp
  try rfl
 apply wpU_act
 apply Exists.intro
 refine ⟨?_, ?_⟩
 ·go_simp
  try rfl
 refine wpU_call (.agg #[.string s1, .string s2]) (i := 2) (d := some 19) rfl rfl (by kernel_rfl) (by kernel_rfl) (by kernel_rfl) (by kernel_rfl) (by rfl) ⟨8, #[.int .i64 6, .int .i64 1], fun W hW => ?_, fun W hW => r61 W⟩ ?_
 ·rw [ucall_run rfl rfl (enters_of Tryz.func8 (by kernel_rfl) rfl) W]
  go_simp
 apply wpU_act
 apply Exists.intro
 refine ⟨?_, ?_⟩
 ·go_simp
  try rfl
 refine wpU_call (.agg #[.string f1, .string f2]) (i := 3) (d := some 20) rfl rfl (by kernel_rfl) (by kernel_rfl) (by kernel_rfl) (by kernel_rfl) (by rfl) ⟨8, #[.int .i64 4, .int .i64 1], fun W hW => ?_, fun W hW => r41 W⟩ ?_
 ·rw [ucall_run rfl rfl (enters_of Tryz.func8 (by kernel_rfl) rfl) W]
  go_simp
 apply wpU_act
 apply Exists.intro
 refine ⟨?_, ?_⟩
 ·go_simp
  try rfl
 refine wpU_late (by kernel_rfl) (fun W1 hW1 => ?_)
 have hB4 := below_step hB3 hW1
 have KZ4 := KZ.below hW1
 have KO4 := KO.below hW1
 clear KZ KO
 refine wpAny_step1 (i := 6) (by kernel_rfl) rfl (by rfl) (fun K hK => ?_)
 go_simp
 go_at_call 11
 refine (PO _ (hp.below hB4) (hP.below hB4 hh0)).mono ?_
 rintro e w5 ⟨PA, pm, pc, rfl, HL, hb5⟩
 refine hK _ _ ?_
 clear hK K PO
 obtain ⟨hpm, -, hPq⟩ := Kd.R_reads' HL
 rw [hl4] at hpm hPq
 subst hpm
 have hB5 := below_step hB4 hb5
 have HLq := Kd.C_drew hPq
 have KZ := (KZ4.below hb5).drew
 have KO := (KO4.below hb5).drew
 have hB6 := below_drew hB5
 clear hb5 KZ4 KO4 hB4 hB5 HL hPq
 refine wpAny_of_C (C := fun _ => True) (ex := fun i => i == 11) _ _ _ _ ?_
 refine wpAnyC_take (i := 7) rfl (by kernel_rfl) (by kernel_rfl) (by kernel_rfl) (by kernel_rfl) (fun _ _ _ _ h => h) trivial (by rfl) ?_
 apply Exists.intro
 refine ⟨fun W hW => ?_, ?_⟩
 ·go_simp
  try rfl
 refine wpAnyC_take (i := 8) rfl (by kernel_rfl) (by kernel_rfl) (by kernel_rfl) (by kernel_rfl) (fun _ _ _ _ h => h) trivial (by rfl) ?_
 apply Exists.intro
 refine ⟨fun W hW => ?_, ?_⟩
 ·go_simp
  try rfl
 refine wpAnyC_take (i := 9) rfl (by kernel_rfl) (by kernel_rfl) (by kernel_rfl) (by kernel_rfl) (fun _ _ _ _ h => h) trivial (by rfl) ?_
 apply Exists.intro
 refine ⟨fun W hW => ?_, ?_⟩
 ·go_simp
  try rfl
 refine wpAnyC_take (i := 10) rfl (by kernel_rfl) (by kernel_rfl) (by kernel_rfl) (by kernel_rfl) (fun _ _ _ _ h => h) trivial (by rfl) ?_
 apply Exists.intro
 refine ⟨fun W hW => ?_, ?_⟩
 ·go_simp
  try rfl
 refine wpAnyC_step (i := 11) (by kernel_rfl) rfl (fun K hK => ?_)
 go_simp
 refine hK _ _ (fun _ => trivial) ?_
 clear hK K
 refine wpAnyC_done (by kernel_rfl) ?_ _
 go_wp2
 refine wp_region_U (fun i => i == 5 || i == 6 || i == 7 || i == 8 || i == 10 || i == 11) (fun W => Below w5.drew.heap.size w5.drew W) (by kernel_rfl) (closed_below _) (Below.refl _ _) ?_
 apply wpU_tk 0 (some 27)
 ·intro W hW
  have e0 := (KZ.below hW).cell 0; have e1 := (KZ.below hW).cell 1
  go_simp
  try rfl
 apply wpU_act
 apply Exists.intro
 refine ⟨?_, ?_⟩
 ·go_simp
  try rfl
 apply wpU_tk 1 (some 28)
 ·intro W hW
  have e0 := (KZ.below hW).cell 0; have e1 := (KZ.below hW).cell 1
  go_simp
  try rfl
 apply wpU_act
 apply Exists.intro
 refine ⟨?_, ?_⟩
 ·go_simp
  try rfl
 apply wpU_tk 4 (some 31)
 ·intro W hW
  have e0 := (KO.below hW).cell 0; have e1 := (KO.below hW).cell 1
  go_simp
  try rfl
 apply wpU_act
 apply Exists.intro
 refine ⟨?_, ?_⟩
 ·go_simp
  try rfl
 refine wpU_call (.agg #[.string s1, .string s2]) (i := 2) (d := some 29) rfl rfl (by kernel_rfl) (by kernel_rfl) (by kernel_rfl) (by kernel_rfl) (by rfl) ⟨8, #[.int .i64 6, .int .i64 1], fun W hW => ?_, fun W hW => r61 W⟩ ?_
 ·rw [ucall_run rfl rfl (enters_of Tryz.func8 (by kernel_rfl) rfl) W]
  go_simp
 apply wpU_act
 apply Exists.intro
 refine ⟨?_, ?_⟩
 ·go_simp
  try rfl
 refine wpU_call (.agg #[.string f1, .string f2]) (i := 3) (d := some 30) rfl rfl (by kernel_rfl) (by kernel_rfl) (by kernel_rfl) (by kernel_rfl) (by rfl) ⟨8, #[.int .i64 4, .int .i64 1], fun W hW => ?_, fun W hW => r41 W⟩ ?_
 ·rw [ucall_run rfl rfl (enters_of Tryz.func8 (by kernel_rfl) rfl) W]
  go_simp
 apply wpU_act
 apply Exists.intro
 refine ⟨?_, ?_⟩
 ·go_simp
  try rfl
 refine wpU_cn (i := 5) (k := 9) (d := some 5) (fun n => .pointer (some ⟨n, 0, none⟩)) #[.slice none 0 0, .slice none 0 0] 42 (by kernel_rfl) rfl rfl rfl (by rfl) (fun W => ?_) (fun W1 hW1 => ?_) (fun g hg => ?_)
 ·go_simp
  try rfl
 ·have hB7 := below_step hB6 hW1
  refine wpOp_in rfl (by rfl) ?_
  go_simp
  go_at_call 14
  refine (RE _ (hp.below hB7) (hP.below hB7 hh0)).mono ?_
  rintro e w8 ⟨v8, rfl, ⟨xx, yy, rfl, HX, HY⟩, hb8⟩
  obtain ⟨XA, xc, ex⟩ := Kd.R_slice HX
  obtain ⟨YA, yc, ey⟩ := Kd.R_slice HY
  subst ex ey
  have hB8 := below_step hB7 hb8
  have HR8 : OwnR w8 _ (.agg #[.slice XA RG.1.length xc, .slice YA RG.2.length yc]) RG := ⟨_, _, rfl, HX, HY⟩
  clear HX HY
  refine wpAny_of_C (C := fun _ => True) (ex := fun i => i == 11) _ _ _ _ ?_
  refine wpAnyC_take (i := 6) rfl (by kernel_rfl) (by kernel_rfl) (by kernel_rfl) (by kernel_rfl) (fun _ _ _ _ h => h) trivial (by rfl) ?_
  apply Exists.intro
  refine ⟨fun W hW => ?_, ?_⟩
  ·go_simp
   try rfl
  refine wpAnyC_take (i := 7) rfl (by kernel_rfl) (by kernel_rfl) (by kernel_rfl) (by kernel_rfl) (fun _ _ _ _ h => h) trivial (by rfl) ?_
  apply Exists.intro
  refine ⟨fun W hW => ?_, ?_⟩
  ·go_simp
   try rfl
  refine wpAnyC_take (i := 8) rfl (by kernel_rfl) (by kernel_rfl) (by kernel_rfl) (by kernel_rfl) (fun _ _ _ _ h => h) trivial (by rfl) ?_
  apply Exists.intro
  refine ⟨fun W hW => ?_, ?_⟩
  ·go_simp
   try rfl
  refine wpAnyC_step (i := 9) (by kernel_rfl) rfl (fun K hK => ?_)
  go_simp
  refine hK _ _ (fun _ => trivial) ?_
  clear hK K
  refine wpAnyC_step (i := 10) (by kernel_rfl) rfl (fun K hK => ?_)
  go_simp
  refine hK _ _ (fun _ => trivial) ?_
  clear hK K
  refine wpAnyC_step (i := 11) (by kernel_rfl) rfl (fun K hK => ?_)
  go_simp
  refine hK _ _ (fun _ => trivial) ?_
  clear hK K
  refine wpAnyC_done (by kernel_rfl) ?_ _
  have KR := Blk.new w8 #[.slice XA RG.1.length xc, .slice YA RG.2.length yc] 42
  have HRR := (HR8.rd).below (below_alloc (Below.refl _ _) (.cells #[.slice XA RG.1.length xc, .slice YA RG.2.length yc] 42))
  have hbAll := below_alloc (below_step hW1 hb8) (.cells #[.slice XA RG.1.length xc, .slice YA RG.2.length yc] 42)
  generalize w8.heap.size = g at *
  generalize (w8.alloc (.cells #[.slice XA RG.1.length xc, .slice YA RG.2.length yc] 42)) = wR at *
  clear hB7 hB8 hb8 hW1 HR8
  have KZR := KZ.below hbAll
  have KOR := KO.below hbAll
  have HLR := Kd.C_below HLq hbAll
  have HBR := below_step hB6 hbAll
  clear KZ KO HLq hB6 hbAll
  obtain ⟨k0, k1, _, _⟩ := KR.two
  obtain ⟨k2, k3, _, _⟩ := KZR.two
  obtain ⟨k4, k5, _, _⟩ := KOR.two
  go_wp2_with (go_at_call 17; refine (C1 _ _ (hp.below HBR) HRR).mono ?_; rintro e w9 ⟨rfl, hb9⟩)
  have hB9d := below_drew (below_step HBR hb9)
  have KR9 := (KR.below hb9).drew
  have HR9 : RdR w9.drew _ _ := (HRR.below hb9).below (below_drew (Below.refl _ _))
  have KZ9 := (KZR.below hb9).drew
  have KO9 := (KOR.below hb9).drew
  have HL9 := Kd.C_drew (Kd.C_below HLR hb9)
  clear KR HRR KZR KOR HLR HBR hb9 k0 k1 k2 k3 k4 k5
  refine wp_region_U (fun _ => false) (fun W => Below w9.drew.heap.size w9.drew W) (by kernel_rfl) (closed_below _) (Below.refl _ _) ?_
  apply wpU_tk 0 (some 43)
  ·intro W hW
   have e0 := (KR9.below hW).cell 0; have e1 := (KR9.below hW).cell 1
   go_simp
   try rfl
  apply wpU_act
  apply Exists.intro
  refine ⟨?_, ?_⟩
  ·go_simp
   try rfl
  refine wpU_call (.agg #[.string t1, .string t2]) (i := 1) (d := some 44) rfl rfl (by kernel_rfl) (by kernel_rfl) (by kernel_rfl) (by kernel_rfl) (by rfl) ⟨8, #[.int .i64 1, .int .i64 4], fun W hW => ?_, fun W hW => r14 W⟩ ?_
  ·rw [ucall_run rfl rfl (enters_of Tryz.func8 (by kernel_rfl) rfl) W]
   go_simp
  apply wpU_act
  apply Exists.intro
  refine ⟨?_, ?_⟩
  ·go_simp
   try rfl
  refine wpU_call (.agg #[.string t1, .string t2]) (i := 2) (d := some 45) rfl rfl (by kernel_rfl) (by kernel_rfl) (by kernel_rfl) (by kernel_rfl) (by rfl) ⟨8, #[.int .i64 1, .int .i64 4], fun W hW => ?_, fun W hW => r14 W⟩ ?_
  ·rw [ucall_run rfl rfl (enters_of Tryz.func8 (by kernel_rfl) rfl) W]
   go_simp
  apply wpU_act
  apply Exists.intro
  refine ⟨?_, ?_⟩
  ·go_simp
   try rfl
  refine wpU_call (.tuple #[.bool false, .int .i64 0]) (i := 3) (d := some 46) rfl rfl (by kernel_rfl) (by kernel_rfl) (by kernel_rfl) (by kernel_rfl) (by rfl) ⟨17, #[.agg #[.slice XA RG.1.length xc, .slice YA RG.2.length yc], .agg #[.string t1, .string t2], .agg #[.string t1, .string t2]], fun W hW => ?_, fun W hW => C2 _ W (hp.below (below_step hB9d hW)) (HR9.below hW)⟩ ?_
  ·rw [ucall_run rfl rfl (enters_of Tryz.func17 (by kernel_rfl) rfl) W]
   go_simp
  apply wpU_act
  apply Exists.intro
  refine ⟨?_, ?_⟩
  ·go_simp
   try rfl
  apply wpU_tk 4 (some 42)
  ·intro W hW
   go_simp
   try rfl
  apply wpU_act
  apply Exists.intro
  refine ⟨?_, ?_⟩
  ·go_simp
   try rfl
  apply wpU_tk 5 (some 47)
  ·intro W hW
   go_simp
   try rfl
  apply wpU_act
  apply Exists.intro
  refine ⟨?_, ?_⟩
  ·go_simp
   try rfl
  apply wpU_tk 6 (some 48)
  ·intro W hW
   go_simp
   try rfl
  apply wpU_act
  apply Exists.intro
  refine ⟨?_, ?_⟩
  ·go_simp
   try rfl
  apply wpU_tk 7 (some 9)
  ·intro W hW
   go_simp
   try rfl
  apply wpU_act
  apply Exists.intro
  refine ⟨?_, ?_⟩
  ·go_simp
   try rfl
  apply wpU_tk 8 (some 10)
  ·intro W hW
   go_simp
   try rfl
  apply wpU_act
  apply Exists.intro
  refine ⟨?_, ?_⟩
  ·go_simp
   try rfl
  refine wpU_done (by kernel_rfl) (fun W1 hW1 => ?_) _
  go_simp
  obtain ⟨wa, hwa⟩ : ∃ W, W1 = W := ⟨_, rfl⟩
  subst hwa
  have hBa := below_drew (below_step hB9d hW1)
  have KZa := (KZ9.below hW1).drew
  have KOa := (KO9.below hW1).drew
  have HLa := Kd.C_drew (Kd.C_below HL9 hW1)
  clear hB9d KR9 HR9 KZ9 KO9 HL9 hW1
  go_wp2
  refine wp_region_U (fun _ => false) (fun W => Below W1.drew.heap.size W1.drew W) (by kernel_rfl) (closed_below _) (Below.refl _ _) ?_
  apply wpU_tk 0 (some 50)
  ·intro W hW
   have e0 := (KZa.below hW).cell 0; have e1 := (KZa.below hW).cell 1
   go_simp
   try rfl
  apply wpU_act
  apply Exists.intro
  refine ⟨?_, ?_⟩
  ·go_simp
   try rfl
  apply wpU_tk 1 (some 51)
  ·intro W hW
   have e0 := (KZa.below hW).cell 0; have e1 := (KZa.below hW).cell 1
   go_simp
   try rfl
  apply wpU_act
  apply Exists.intro
  refine ⟨?_, ?_⟩
  ·go_simp
   try rfl
  apply wpU_tk 4 (some 54)
  ·intro W hW
   have e0 := (KOa.below hW).cell 0; have e1 := (KOa.below hW).cell 1
   go_simp
   try rfl
  apply wpU_act
  apply Exists.intro
  refine ⟨?_, ?_⟩
  ·go_simp
   try rfl
  refine wpU_call (.agg #[.string s1, .string s2]) (i := 2) (d := some 52) rfl rfl (by kernel_rfl) (by kernel_rfl) (by kernel_rfl) (by kernel_rfl) (by rfl) ⟨8, #[.int .i64 6, .int .i64 1], fun W hW => ?_, fun W hW => r61 W⟩ ?_
  ·rw [ucall_run rfl rfl (enters_of Tryz.func8 (by kernel_rfl) rfl) W]
   go_simp
  apply wpU_act
  apply Exists.intro
  refine ⟨?_, ?_⟩
  ·go_simp
   try rfl
  refine wpU_call (.agg #[.string f1, .string f2]) (i := 3) (d := some 53) rfl rfl (by kernel_rfl) (by kernel_rfl) (by kernel_rfl) (by kernel_rfl) (by rfl) ⟨8, #[.int .i64 4, .int .i64 1], fun W hW => ?_, fun W hW => r41 W⟩ ?_
  ·rw [ucall_run rfl rfl (enters_of Tryz.func8 (by kernel_rfl) rfl) W]
   go_simp
  apply wpU_act
  apply Exists.intro
  refine ⟨?_, ?_⟩
  ·go_simp
   try rfl
  refine wpU_call (.agg #[.string h1, .string h2]) (i := 5) (d := some 55) rfl rfl (by kernel_rfl) (by kernel_rfl) (by kernel_rfl) (by kernel_rfl) (by rfl) ⟨8, #[.int .i64 5, .int .i64 2], fun W hW => ?_, fun W hW => r52 W⟩ ?_
  ·rw [ucall_run rfl rfl (enters_of Tryz.func8 (by kernel_rfl) rfl) W]
   go_simp
  apply wpU_act
  apply Exists.intro
  refine ⟨?_, ?_⟩
  ·go_simp
   try rfl
  refine wpU_call (.tuple #[.slice none 0 0, .int .i64 290]) (i := 6) (d := some 56) rfl rfl (by kernel_rfl) (by kernel_rfl) (by kernel_rfl) (by kernel_rfl) (by rfl) ⟨11, #[.agg #[.string z1, .string z2], .agg #[.string z1, .string z2], .agg #[.string s1, .string s2], .agg #[.string f1, .string f2], .agg #[.string o1, .string o2], .agg #[.string h1, .string h2]], fun W hW => ?_, fun W hW => PB W (hp.below (below_step hBa hW)) (hP.below (below_step hBa hW) hh0)⟩ ?_
  ·rw [ucall_run rfl rfl (enters_of Tryz.func11 (by kernel_rfl) rfl) W]
   go_simp
  apply wpU_act
  apply Exists.intro
  refine ⟨?_, ?_⟩
  ·go_simp
   try rfl
  apply wpU_tk 7 (some 49)
  ·intro W hW
   go_simp
   try rfl
  apply wpU_act
  apply Exists.intro
  refine ⟨?_, ?_⟩
  ·go_simp
   try rfl
  apply wpU_tk 8 (some 57)
  ·intro W hW
   go_simp
   try rfl
  apply wpU_act
  apply Exists.intro
  refine ⟨?_, ?_⟩
  ·go_simp
   try rfl
  apply wpU_tk 9 (some 58)
  ·intro W hW
   go_simp
   try rfl
  apply wpU_act
  apply Exists.intro
  refine ⟨?_, ?_⟩
  ·go_simp
   try rfl
  apply wpU_tk 10 (some 11)
  ·intro W hW
   go_simp
   try rfl
  apply wpU_act
  apply Exists.intro
  refine ⟨?_, ?_⟩
  ·go_simp
   try rfl
  apply wpU_tk 11 (some 12)
  ·intro W hW
   go_simp
   try rfl
  apply wpU_act
  apply Exists.intro
  refine ⟨?_, ?_⟩
  ·go_simp
   try rfl
  refine wpU_done (by kernel_rfl) (fun W2 hW2 => ?_) _
  go_simp
  have HLx := Kd.C_below HLa hW2
  have HBx := below_step hBa hW2
  clear KZa KOa HLa hBa hW2
  have TK1 : True := trivial
  have TK2 : True := trivial
  have TK3 : True := trivial
  have TK4 : True := trivial
  go_wp2_with (first | (go_at_call 24; clear TK1; refine (p1 _).mono ?_; rintro e x1 ⟨rfl, hbx⟩; replace HLx := Kd.C_below HLx hbx; replace HBx := below_step HBx hbx; clear hbx) | (go_at_call 24; clear TK2; refine (p2 _).mono ?_; rintro e x2 ⟨rfl, hbx⟩; replace HLx := Kd.C_below HLx hbx; replace HBx := below_step HBx hbx; clear hbx) | (go_at_call 24; clear TK3; refine (p3 _).mono ?_; rintro e x3 ⟨rfl, hbx⟩; replace HLx := Kd.C_below HLx hbx; replace HBx := below_step HBx hbx; clear hbx) | (go_at_call 24; clear TK4; refine (p4 _).mono ?_; rintro e x4 ⟨rfl, hbx⟩; replace HLx := Kd.C_below HLx hbx; replace HBx := below_step HBx hbx; clear hbx) | (go_at_call 13; refine (SM _ _ _ _ _ (Kd.C_below HLx (below_alloc (Below.refl _ _) _)) (FB _ _ (Blk.new _ _ _))).mono ?_; rintro e x5 ⟨rfl, hb5⟩; replace HBx := below_step (below_alloc HBx (.cells #[.string o1, .string o2, .string o1, .string o2, .string o1, .string o2, .string u1, .string u2, .string o1, .string o2, .string v1, .string v2, .string o1, .string o2, .string v1, .string v2, .string u1, .string u2, .string o1, .string o2, .string o1, .string o2, .string o1, .string o2, .string v1, .string v2, .string o1, .string o2, .string o1, .string o2, .string o1, .string o2, .string u1, .string u2, .string v1, .string v2, .string u1, .string u2, .string o1, .string o2] 61)) hb5))
  go_ret
  exact ⟨rfl, HBx⟩
 ·apply wpU_act
  apply Exists.intro
  refine ⟨?_, ?_⟩
  ·go_simp
   try rfl
  refine wpU_late (by kernel_rfl) (fun W1 hW1 => ?_)
  have hgw : w5.drew.heap.size ≤ g := by
   obtain ⟨Wa, h, e⟩ := hg
   rw [e]
   exact below_size h
  clear hg
  have hB7 := below_step hB6 hW1.1
  have KG7 := hW1.2
  refine wpAny_step1 (i := 5) (by kernel_rfl) rfl (by rfl) (fun K hK => ?_)
  go_simp
  go_at_call 14
  refine (RE _ (hp.below hB7) (hP.below hB7 hh0)).mono ?_
  rintro e w8 ⟨v8, rfl, ⟨xx, yy, rfl, HX, HY⟩, hb8⟩
  obtain ⟨XA, xc, ex⟩ := Kd.R_slice HX
  obtain ⟨YA, yc, ey⟩ := Kd.R_slice HY
  subst ex ey
  have hB8 := below_step hB7 hb8
  have HR8 : OwnR w8 _ (.agg #[.slice XA RG.1.length xc, .slice YA RG.2.length yc]) RG := ⟨_, _, rfl, HX, HY⟩
  clear HX HY
  refine hK _ _ ?_
  clear hK K
  have KG8 := KG7.below hb8
  obtain ⟨r0, r1, rz0, rz1⟩ := KG8.two
  refine wpAny_of_C (C := fun _ => True) (ex := fun i => i == 11) _ _ _ _ ?_
  refine wpAnyC_take (i := 6) rfl (by kernel_rfl) (by kernel_rfl) (by kernel_rfl) (by kernel_rfl) (fun _ _ _ _ h => h) trivial (by rfl) ?_
  apply Exists.intro
  refine ⟨fun W hW => ?_, ?_⟩
  ·go_simp
   try rfl
  refine wpAnyC_take (i := 7) rfl (by kernel_rfl) (by kernel_rfl) (by kernel_rfl) (by kernel_rfl) (fun _ _ _ _ h => h) trivial (by rfl) ?_
  apply Exists.intro
  refine ⟨fun W hW => ?_, ?_⟩
  ·go_simp
   try rfl
  refine wpAnyC_take (i := 8) rfl (by kernel_rfl) (by kernel_rfl) (by kernel_rfl) (by kernel_rfl) (fun _ _ _ _ h => h) trivial (by rfl) ?_
  apply Exists.intro
  refine ⟨fun W hW => ?_, ?_⟩
  ·go_simp
   try rfl
  refine wpAnyC_step (i := 10) (by kernel_rfl) rfl (fun K hK => ?_)
  go_simp
  refine hK _ _ (fun _ => trivial) ?_
  clear hK K
  refine wpAnyC_step (i := 11) (by kernel_rfl) rfl (fun K hK => ?_)
  go_simp
  refine hK _ _ (fun _ => trivial) ?_
  clear hK K
  refine wpAnyC_done (by kernel_rfl) ?_ _
  have KR : Blk ((w8.setCell ⟨g, 0, none⟩ (.slice XA RG.1.length xc)).setCell ⟨g, 1, none⟩ (.slice YA RG.2.length yc)) g #[.slice XA RG.1.length xc, .slice YA RG.2.length yc] 42 := (KG8.set 0 _).set 1 _
  have HRR := (OwnR.set (OwnR.set HR8 KG8 (by decide) (by decide) 0 (.slice XA RG.1.length xc)) (KG8.set 0 _) (by decide) (by decide) 1 (.slice YA RG.2.length yc)).rd
  have hbAll := below_set (g := g) (j := 1) (v := .slice YA RG.2.length yc) (below_set (g := g) (j := 0) (v := .slice XA RG.1.length xc) (below_step hW1.1 hb8) hgw) hgw
  generalize ((w8.setCell ⟨g, 0, none⟩ (.slice XA RG.1.length xc)).setCell ⟨g, 1, none⟩ (.slice YA RG.2.length yc)) = wR at *
  clear hB7 hB8 hb8 hW1 HR8 KG7 KG8 hgw r0 r1 rz0 rz1
  have KZR := KZ.below hbAll
  have KOR := KO.below hbAll
  have HLR := Kd.C_below HLq hbAll
  have HBR := below_step hB6 hbAll
  clear KZ KO HLq hB6 hbAll
  obtain ⟨k0, k1, _, _⟩ := KR.two
  obtain ⟨k2, k3, _, _⟩ := KZR.two
  obtain ⟨k4, k5, _, _⟩ := KOR.two
  go_wp2_with (go_at_call 17; refine (C1 _ _ (hp.below HBR) HRR).mono ?_; rintro e w9 ⟨rfl, hb9⟩)
  have hB9d := below_drew (below_step HBR hb9)
  have KR9 := (KR.below hb9).drew
  have HR9 : RdR w9.drew _ _ := (HRR.below hb9).below (below_drew (Below.refl _ _))
  have KZ9 := (KZR.below hb9).drew
  have KO9 := (KOR.below hb9).drew
  have HL9 := Kd.C_drew (Kd.C_below HLR hb9)
  clear KR HRR KZR KOR HLR HBR hb9 k0 k1 k2 k3 k4 k5
  refine wp_region_U (fun _ => false) (fun W => Below w9.drew.heap.size w9.drew W) (by kernel_rfl) (closed_below _) (Below.refl _ _) ?_
  apply wpU_tk 0 (some 43)
  ·intro W hW
   have e0 := (KR9.below hW).cell 0; have e1 := (KR9.below hW).cell 1
   go_simp
   try rfl
  apply wpU_act
  apply Exists.intro
  refine ⟨?_, ?_⟩
  ·go_simp
   try rfl
  refine wpU_call (.agg #[.string t1, .string t2]) (i := 1) (d := some 44) rfl rfl (by kernel_rfl) (by kernel_rfl) (by kernel_rfl) (by kernel_rfl) (by rfl) ⟨8, #[.int .i64 1, .int .i64 4], fun W hW => ?_, fun W hW => r14 W⟩ ?_
  ·rw [ucall_run rfl rfl (enters_of Tryz.func8 (by kernel_rfl) rfl) W]
   go_simp
  apply wpU_act
  apply Exists.intro
  refine ⟨?_, ?_⟩
  ·go_simp
   try rfl
  refine wpU_call (.agg #[.string t1, .string t2]) (i := 2) (d := some 45) rfl rfl (by kernel_rfl) (by kernel_rfl) (by kernel_rfl) (by kernel_rfl) (by rfl) ⟨8, #[.int .i64 1, .int .i64 4], fun W hW => ?_, fun W hW => r14 W⟩ ?_
  ·rw [ucall_run rfl rfl (enters_of Tryz.func8 (by kernel_rfl) rfl) W]
   go_simp
  apply wpU_act
  apply Exists.intro
  refine ⟨?_, ?_⟩
  ·go_simp
   try rfl
  refine wpU_call (.tuple #[.bool false, .int .i64 0]) (i := 3) (d := some 46) rfl rfl (by kernel_rfl) (by kernel_rfl) (by kernel_rfl) (by kernel_rfl) (by rfl) ⟨17, #[.agg #[.slice XA RG.1.length xc, .slice YA RG.2.length yc], .agg #[.string t1, .string t2], .agg #[.string t1, .string t2]], fun W hW => ?_, fun W hW => C2 _ W (hp.below (below_step hB9d hW)) (HR9.below hW)⟩ ?_
  ·rw [ucall_run rfl rfl (enters_of Tryz.func17 (by kernel_rfl) rfl) W]
   go_simp
  apply wpU_act
  apply Exists.intro
  refine ⟨?_, ?_⟩
  ·go_simp
   try rfl
  apply wpU_tk 4 (some 42)
  ·intro W hW
   go_simp
   try rfl
  apply wpU_act
  apply Exists.intro
  refine ⟨?_, ?_⟩
  ·go_simp
   try rfl
  apply wpU_tk 5 (some 47)
  ·intro W hW
   go_simp
   try rfl
  apply wpU_act
  apply Exists.intro
  refine ⟨?_, ?_⟩
  ·go_simp
   try rfl
  apply wpU_tk 6 (some 48)
  ·intro W hW
   go_simp
   try rfl
  apply wpU_act
  apply Exists.intro
  refine ⟨?_, ?_⟩
  ·go_simp
   try rfl
  apply wpU_tk 7 (some 9)
  ·intro W hW
   go_simp
   try rfl
  apply wpU_act
  apply Exists.intro
  refine ⟨?_, ?_⟩
  ·go_simp
   try rfl
  apply wpU_tk 8 (some 10)
  ·intro W hW
   go_simp
   try rfl
  apply wpU_act
  apply Exists.intro
  refine ⟨?_, ?_⟩
  ·go_simp
   try rfl
  refine wpU_done (by kernel_rfl) (fun W1 hW1 => ?_) _
  go_simp
  obtain ⟨wa, hwa⟩ : ∃ W, W1 = W := ⟨_, rfl⟩
  subst hwa
  have hBa := below_drew (below_step hB9d hW1)
  have KZa := (KZ9.below hW1).drew
  have KOa := (KO9.below hW1).drew
  have HLa := Kd.C_drew (Kd.C_below HL9 hW1)
  clear hB9d KR9 HR9 KZ9 KO9 HL9 hW1
  go_wp2
  refine wp_region_U (fun _ => false) (fun W => Below W1.drew.heap.size W1.drew W) (by kernel_rfl) (closed_below _) (Below.refl _ _) ?_
  apply wpU_tk 0 (some 50)
  ·intro W hW
   have e0 := (KZa.below hW).cell 0; have e1 := (KZa.below hW).cell 1
   go_simp
   try rfl
  apply wpU_act
  apply Exists.intro
  refine ⟨?_, ?_⟩
  ·go_simp
   try rfl
  apply wpU_tk 1 (some 51)
  ·intro W hW
   have e0 := (KZa.below hW).cell 0; have e1 := (KZa.below hW).cell 1
   go_simp
   try rfl
  apply wpU_act
  apply Exists.intro
  refine ⟨?_, ?_⟩
  ·go_simp
   try rfl
  apply wpU_tk 4 (some 54)
  ·intro W hW
   have e0 := (KOa.below hW).cell 0; have e1 := (KOa.below hW).cell 1
   go_simp
   try rfl
  apply wpU_act
  apply Exists.intro
  refine ⟨?_, ?_⟩
  ·go_simp
   try rfl
  refine wpU_call (.agg #[.string s1, .string s2]) (i := 2) (d := some 52) rfl rfl (by kernel_rfl) (by kernel_rfl) (by kernel_rfl) (by kernel_rfl) (by rfl) ⟨8, #[.int .i64 6, .int .i64 1], fun W hW => ?_, fun W hW => r61 W⟩ ?_
  ·rw [ucall_run rfl rfl (enters_of Tryz.func8 (by kernel_rfl) rfl) W]
   go_simp
  apply wpU_act
  apply Exists.intro
  refine ⟨?_, ?_⟩
  ·go_simp
   try rfl
  refine wpU_call (.agg #[.string f1, .string f2]) (i := 3) (d := some 53) rfl rfl (by kernel_rfl) (by kernel_rfl) (by kernel_rfl) (by kernel_rfl) (by rfl) ⟨8, #[.int .i64 4, .int .i64 1], fun W hW => ?_, fun W hW => r41 W⟩ ?_
  ·rw [ucall_run rfl rfl (enters_of Tryz.func8 (by kernel_rfl) rfl) W]
   go_simp
  apply wpU_act
  apply Exists.intro
  refine ⟨?_, ?_⟩
  ·go_simp
   try rfl
  refine wpU_call (.agg #[.string h1, .string h2]) (i := 5) (d := some 55) rfl rfl (by kernel_rfl) (by kernel_rfl) (by kernel_rfl) (by kernel_rfl) (by rfl) ⟨8, #[.int .i64 5, .int .i64 2], fun W hW => ?_, fun W hW => r52 W⟩ ?_
  ·rw [ucall_run rfl rfl (enters_of Tryz.func8 (by kernel_rfl) rfl) W]
   go_simp
  apply wpU_act
  apply Exists.intro
  refine ⟨?_, ?_⟩
  ·go_simp
   try rfl
  refine wpU_call (.tuple #[.slice none 0 0, .int .i64 290]) (i := 6) (d := some 56) rfl rfl (by kernel_rfl) (by kernel_rfl) (by kernel_rfl) (by kernel_rfl) (by rfl) ⟨11, #[.agg #[.string z1, .string z2], .agg #[.string z1, .string z2], .agg #[.string s1, .string s2], .agg #[.string f1, .string f2], .agg #[.string o1, .string o2], .agg #[.string h1, .string h2]], fun W hW => ?_, fun W hW => PB W (hp.below (below_step hBa hW)) (hP.below (below_step hBa hW) hh0)⟩ ?_
  ·rw [ucall_run rfl rfl (enters_of Tryz.func11 (by kernel_rfl) rfl) W]
   go_simp
  apply wpU_act
  apply Exists.intro
  refine ⟨?_, ?_⟩
  ·go_simp
   try rfl
  apply wpU_tk 7 (some 49)
  ·intro W hW
   go_simp
   try rfl
  apply wpU_act
  apply Exists.intro
  refine ⟨?_, ?_⟩
  ·go_simp
   try rfl
  apply wpU_tk 8 (some 57)
  ·intro W hW
   go_simp
   try rfl
  apply wpU_act
  apply Exists.intro
  refine ⟨?_, ?_⟩
  ·go_simp
   try rfl
  apply wpU_tk 9 (some 58)
  ·intro W hW
   go_simp
   try rfl
  apply wpU_act
  apply Exists.intro
  refine ⟨?_, ?_⟩
  ·go_simp
   try rfl
  apply wpU_tk 10 (some 11)
  ·intro W hW
   go_simp
   try rfl
  apply wpU_act
  apply Exists.intro
  refine ⟨?_, ?_⟩
  ·go_simp
   try rfl
  apply wpU_tk 11 (some 12)
  ·intro W hW
   go_simp
   try rfl
  apply wpU_act
  apply Exists.intro
  refine ⟨?_, ?_⟩
  ·go_simp
   try rfl
  refine wpU_done (by kernel_rfl) (fun W2 hW2 => ?_) _
  go_simp
  have HLx := Kd.C_below HLa hW2
  have HBx := below_step hBa hW2
  clear KZa KOa HLa hBa hW2
  have TK1 : True := trivial
  have TK2 : True := trivial
  have TK3 : True := trivial
  have TK4 : True := trivial
  go_wp2_with (first | (go_at_call 24; clear TK1; refine (p1 _).mono ?_; rintro e x1 ⟨rfl, hbx⟩; replace HLx := Kd.C_below HLx hbx; replace HBx := below_step HBx hbx; clear hbx) | (go_at_call 24; clear TK2; refine (p2 _).mono ?_; rintro e x2 ⟨rfl, hbx⟩; replace HLx := Kd.C_below HLx hbx; replace HBx := below_step HBx hbx; clear hbx) | (go_at_call 24; clear TK3; refine (p3 _).mono ?_; rintro e x3 ⟨rfl, hbx⟩; replace HLx := Kd.C_below HLx hbx; replace HBx := below_step HBx hbx; clear hbx) | (go_at_call 24; clear TK4; refine (p4 _).mono ?_; rintro e x4 ⟨rfl, hbx⟩; replace HLx := Kd.C_below HLx hbx; replace HBx := below_step HBx hbx; clear hbx) | (go_at_call 13; refine (SM _ _ _ _ _ (Kd.C_below HLx (below_alloc (Below.refl _ _) _)) (FB _ _ (Blk.new _ _ _))).mono ?_; rintro e x5 ⟨rfl, hb5⟩; replace HBx := below_step (below_alloc HBx (.cells #[.string o1, .string o2, .string o1, .string o2, .string o1, .string o2, .string u1, .string u2, .string o1, .string o2, .string v1, .string v2, .string o1, .string o2, .string v1, .string v2, .string u1, .string u2, .string o1, .string o2, .string o1, .string o2, .string o1, .string o2, .string v1, .string v2, .string o1, .string o2, .string o1, .string o2, .string o1, .string o2, .string u1, .string u2, .string v1, .string v2, .string u1, .string u2, .string o1, .string o2] 61)) hb5))
  go_ret
  exact ⟨rfl, HBx⟩
end Go.Proofs.YtociicfjhgfgpaaGreatDoor

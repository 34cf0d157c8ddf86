/- rational: sum, Add, Sub, Mul: the walks. As Cls: what each operation must leave is told apart (D): for regions with more than one store. -/
import Derived.Test.YtociicfjhgfgpaaGreatDoorM19
import Derived.Test.YtociicfjhgfgpaaGreatDoorM16
set_option linter.unusedVariables false
set_option linter.unusedSimpArgs false
namespace Go.Proofs.YtociicfjhgfgpaaGreatDoor
open Go.RowKit Go.Shelf Go.Lib Go.Proofs.YtociicfjhgfgpaaGreatDoorW.PrintWords
def sumW (w : World) (a b c d : ByteArray) : World := ((((w.alloc (.cells #[.string a, .string b] 25)).alloc (.cells #[.string c, .string d] 25)).alloc (.cells #[.string ⟨#[]⟩, .string ⟨#[]⟩] 25)).alloc (.cells #[.bool false] 179)).alloc (.cells #[.string a, .string b, .string c, .string d] 25)
theorem sumW_facts (w : World) (a b c d : ByteArray) : Below w.heap.size w (sumW w a b c d) ∧ Blk (sumW w a b c d) w.heap.size #[.string a, .string b] 25 ∧ Blk (sumW w a b c d) (w.heap.size + 1) #[.string c, .string d] 25 ∧ Blk (sumW w a b c d) (w.heap.size + 2) #[.string ⟨#[]⟩, .string ⟨#[]⟩] 25 ∧ Blk (sumW w a b c d) (w.heap.size + 3) #[.bool false] 179 ∧ Blk (sumW w a b c d) (w.heap.size + 4) #[.string a, .string b, .string c, .string d] 25 := by
 unfold sumW
 refine ⟨below_alloc (below_alloc (below_alloc (below_alloc (below_alloc (Below.refl _ _) _) _) _) _) _, ((((Blk.new w _ _).alloc _).alloc _).alloc _).alloc _, ?_, ?_, ?_, ?_⟩
 ·have := (((Blk.new (w.alloc (.cells #[.string a, .string b] 25)) #[.string c, .string d] 25).alloc (.cells #[.string ⟨#[]⟩, .string ⟨#[]⟩] 25)).alloc (.cells #[.bool false] 179)).alloc (.cells #[.string a, .string b, .string c, .string d] 25)
  rwa [World.size_alloc] at this
 ·have := ((Blk.new ((w.alloc (.cells #[.string a, .string b] 25)).alloc (.cells #[.string c, .string d] 25)) #[.string ⟨#[]⟩, .string ⟨#[]⟩] 25).alloc (.cells #[.bool false] 179)).alloc (.cells #[.string a, .string b, .string c, .string d] 25)
  rwa [World.size_alloc, World.size_alloc] at this
 ·have := (Blk.new (((w.alloc (.cells #[.string a, .string b] 25)).alloc (.cells #[.string c, .string d] 25)).alloc (.cells #[.string ⟨#[]⟩, .string ⟨#[]⟩] 25)) #[.bool false] 179).alloc (.cells #[.string a, .string b, .string c, .string d] 25)
  rwa [World.size_alloc, World.size_alloc, World.size_alloc] at this
 ·have := Blk.new ((((w.alloc (.cells #[.string a, .string b] 25)).alloc (.cells #[.string c, .string d] 25)).alloc (.cells #[.string ⟨#[]⟩, .string ⟨#[]⟩] 25)).alloc (.cells #[.bool false] 179)) #[.string a, .string b, .string c, .string d] 25
  rwa [World.size_alloc, World.size_alloc, World.size_alloc, World.size_alloc] at this
set_option maxHeartbeats 4000000 in
set_option maxRecDepth 100000 in
theorem rat_sum (g : Nat) (p q : Rat) (z : Int) (w : World) (hp : Pow w) (h1 : Sq p) (h2 : Sq q) (fz : fit z) (eg : ∀ args w, (callFunc g args).run Tryz.prog w = .ok (.enter g args) w)
  (hf : ∀ W, Below w.heap.size w W → Calls Tryz.prog g #[.string (itx (p.num * q.den)), .string (itx (q.num * p.den))] W fun e w' => e = .returned (.tuple #[.string (itx z), .int .i64 0]) ∧ Below W.heap.size W w') :
  Calls Tryz.prog 47 #[.func (.func g) #[] #[], rv p, rv q] w fun e w' => e = .returned (.tuple #[rv (mkRat z (p.den * q.den)), .int .i64 0]) ∧ Below w.heap.size w w' := by
 have M1 := fun b W hb hk => rat_mul b p.num q.den W (hp.below hb) hk h1.n h2.d (fit_mulS h1.1 (sm_den q h2))
 have M2 := fun b W hb hk => rat_mul b q.num p.den W (hp.below hb) hk h2.n h1.d (fit_mulS h2.1 (sm_den p h1))
 have fd : fit ((p.den : Int) * (q.den : Int)) := fit_mulS (sm_den p h1) (sm_den q h2)
 have M3 := fun b W hb hk => rat_mul b p.den q.den W (hp.below hb) hk h1.d h2.d fd
 have RD := fun b W hb hk => rat_reduced b z ((p.den : Int) * (q.den : Int)) W (hp.below hb) hk fz fd (by have := p.den_pos; have := q.den_pos; exact Int.mul_pos (by omega) (by omega))
 rw [show ((p.den : Int) * (q.den : Int)).toNat = p.den * q.den by rw [← Int.natCast_mul, Int.toNat_natCast]] at RD
 have CK := fun b g' W hb hk hg => rat_check b g' p q W (hp.below hb) h1 h2 hk hg
 have DO := fun b W (hb : Below w.heap.size w W) hk => rat_do b g _ _ _ W hk eg (fun W' hb' => hf W' (below_step hb hb'))
 obtain ⟨F0, F1, F2, F3, F4, F5⟩ := sumW_facts w (itx p.num) (itx (p.den : Int)) (itx q.num) (itx (q.den : Int))
 unfold rv at *
 generalize itx (mkRat z (p.den * q.den)).num = o1 at *
 generalize itx ((mkRat z (p.den * q.den)).den : Int) = o2 at *
 generalize itx (p.num * q.den) = t1 at *
 generalize itx (q.num * p.den) = t2 at *
 generalize itx ((p.den : Int) * (q.den : Int)) = t3 at *
 generalize itx z = t4 at *
 generalize itx p.num = s1 at *
 generalize itx (p.den : Int) = s2 at *
 generalize itx q.num = s3 at *
 generalize itx (q.den : Int) = s4 at *
 clear h1 h2 fz fd hf eg
 go_enter Tryz.func47, Tryz.ntmps47
 go_wp2_with (go_at_call 117; refine (CK _ _ _ F0 F4 F5).mono ?_; clear CK; rintro e w2 ⟨rfl, hb2⟩)
 have hB2 := below_step F0 hb2
 have K0 := F1.below hb2
 have K1 := F2.below hb2
 have K2 := F3.below hb2
 have K3 := F4.below hb2
 clear F0 F1 F2 F3 F4 F5 hb2
 have hD := below_drew hB2
 have hC0 : Below w2.drew.heap.size w2.drew w2.drew := Below.refl _ _
 refine wp_region_C (fun _ => false) (fun W => Below w2.drew.heap.size w2.drew W) (by kernel_rfl) ?_
 refine wpAnyC_take (i := 0) rfl (by kernel_rfl) (by kernel_rfl) (by kernel_rfl) (by kernel_rfl) (fun _ _ _ _ h => h) hC0 (by rfl) ?_
 apply Exists.intro
 refine ⟨fun W hW => ?_, ?_⟩
 ·go_simp
  try rfl
 refine wpAnyC_take (i := 1) rfl (by kernel_rfl) (by kernel_rfl) (by kernel_rfl) (by kernel_rfl) (fun _ _ _ _ h => h) hC0 (by rfl) ?_
 apply Exists.intro
 refine ⟨fun W hW => ?_, ?_⟩
 ·go_simp
  try rfl
 refine wpAnyC_take (i := 2) rfl (by kernel_rfl) (by kernel_rfl) (by kernel_rfl) (by kernel_rfl) (fun _ _ _ _ h => h) hC0 (by rfl) ?_
 apply Exists.intro
 refine ⟨fun W hW => ?_, ?_⟩
 ·go_simp
  try rfl
 refine wpAnyC_take (i := 3) rfl (by kernel_rfl) (by kernel_rfl) (by kernel_rfl) (by kernel_rfl) (fun _ _ _ _ h => h) hC0 (by rfl) ?_
 apply Exists.intro
 refine ⟨fun W hW => ?_, ?_⟩
 ·go_simp
  try rfl
 refine wpAnyC_take (i := 4) rfl (by kernel_rfl) (by kernel_rfl) (by kernel_rfl) (by kernel_rfl) (fun _ _ _ _ h => h) hC0 (by rfl) ?_
 apply Exists.intro
 refine ⟨fun W hW => ?_, ?_⟩
 ·have e0 := (K0.drew.below hW).cell 0
  have e1 := (K0.drew.below hW).cell 1
  have e2 := (K1.drew.below hW).cell 0
  have e3 := (K1.drew.below hW).cell 1
  go_simp
  try rfl
 refine wpAnyC_take (i := 5) rfl (by kernel_rfl) (by kernel_rfl) (by kernel_rfl) (by kernel_rfl) (fun _ _ _ _ h => h) hC0 (by rfl) ?_
 apply Exists.intro
 refine ⟨fun W hW => ?_, ?_⟩
 ·go_simp
  try rfl
 refine wpAnyC_take (i := 6) rfl (by kernel_rfl) (by kernel_rfl) (by kernel_rfl) (by kernel_rfl) (fun _ _ _ _ h => h) hC0 (by rfl) ?_
 apply Exists.intro
 refine ⟨fun W hW => ?_, ?_⟩
 ·have e0 := (K0.drew.below hW).cell 0
  have e1 := (K0.drew.below hW).cell 1
  have e2 := (K1.drew.below hW).cell 0
  have e3 := (K1.drew.below hW).cell 1
  go_simp
  try rfl
 refine wpAnyC_take (i := 8) rfl (by kernel_rfl) (by kernel_rfl) (by kernel_rfl) (by kernel_rfl) (fun _ _ _ _ h => h) hC0 (by rfl) ?_
 apply Exists.intro
 refine ⟨fun W hW => ?_, ?_⟩
 ·go_simp
  try rfl
 refine wpAnyC_take (i := 9) rfl (by kernel_rfl) (by kernel_rfl) (by kernel_rfl) (by kernel_rfl) (fun _ _ _ _ h => h) hC0 (by rfl) ?_
 apply Exists.intro
 refine ⟨fun W hW => ?_, ?_⟩
 ·go_simp
  try rfl
 refine wpAnyC_take (i := 10) rfl (by kernel_rfl) (by kernel_rfl) (by kernel_rfl) (by kernel_rfl) (fun _ _ _ _ h => h) hC0 (by rfl) ?_
 apply Exists.intro
 refine ⟨fun W hW => ?_, ?_⟩
 ·have e0 := (K0.drew.below hW).cell 0
  have e1 := (K0.drew.below hW).cell 1
  have e2 := (K1.drew.below hW).cell 0
  have e3 := (K1.drew.below hW).cell 1
  go_simp
  try rfl
 refine wpAnyC_take (i := 11) rfl (by kernel_rfl) (by kernel_rfl) (by kernel_rfl) (by kernel_rfl) (fun _ _ _ _ h => h) hC0 (by rfl) ?_
 apply Exists.intro
 refine ⟨fun W hW => ?_, ?_⟩
 ·go_simp
  try rfl
 refine wpAnyC_take (i := 12) rfl (by kernel_rfl) (by kernel_rfl) (by kernel_rfl) (by kernel_rfl) (fun _ _ _ _ h => h) hC0 (by rfl) ?_
 apply Exists.intro
 refine ⟨fun W hW => ?_, ?_⟩
 ·have e0 := (K0.drew.below hW).cell 0
  have e1 := (K0.drew.below hW).cell 1
  have e2 := (K1.drew.below hW).cell 0
  have e3 := (K1.drew.below hW).cell 1
  go_simp
  try rfl
 refine wpAnyC_step (i := 7) (by kernel_rfl) rfl (fun K hK => ?_)
 go_simp
 go_at_call 119
 refine (M1 _ _ hD K3.drew).mono ?_
 rintro e w3 ⟨rfl, hb3⟩
 refine hK _ _ (fun _ => hb3) ?_
 clear hK K
 refine wpAnyC_step (i := 13) (by kernel_rfl) rfl (fun K hK => ?_)
 go_simp
 go_at_call 119
 refine (M2 _ _ (below_step hD hb3) (K3.drew.below hb3)).mono ?_
 rintro e w4 ⟨rfl, hb4⟩
 refine hK _ _ (fun _ => below_step hb3 hb4) ?_
 clear hK K
 refine wpAnyC_step (i := 14) (by kernel_rfl) rfl (fun K hK => ?_)
 go_simp
 go_at_call 118
 refine (DO _ _ (below_step (below_step hD hb3) hb4) ((K3.drew.below hb3).below hb4)).mono ?_
 rintro e w5 ⟨rfl, hb5⟩
 refine hK _ _ (fun _ => below_step (below_step hb3 hb4) hb5) ?_
 clear hK K
 refine wpAnyC_take (i := 15) rfl (by kernel_rfl) (by kernel_rfl) (by kernel_rfl) (by kernel_rfl) (fun _ _ _ _ h => h) (below_step (below_step hb3 hb4) hb5) (by rfl) ?_
 apply Exists.intro
 refine ⟨fun W hW => ?_, ?_⟩
 ·go_simp
  try rfl
 refine wpAnyC_done (by kernel_rfl) ?_ _
 have hb' := below_step (below_step hb3 hb4) hb5
 have hB' := below_step hD hb'
 have L0 := K0.drew.below hb'
 have L1 := K1.drew.below hb'
 have L2 := K2.drew.below hb'
 have L3 := K3.drew.below hb'
 have c01 := L0.cell 1
 have c11 := L1.cell 1
 go_wp2_with (first | (go_at_call 119; refine (M3 _ _ hB' L3).mono ?_; clear M3; rintro e w6 ⟨rfl, hb6⟩) | (go_at_call 120; refine (RD _ _ (below_step hB' hb6) (L3.below hb6)).mono ?_; clear RD; rintro e w7 ⟨rfl, hb7⟩; have L27 := (L2.below hb6).below hb7; obtain ⟨r0, r1, q0, q1⟩ := L27.two))
 refine bodyPost_ret (results_ct rfl _ _ (w.heap.size + 2) 25 #[.string o1, .string o2] (0, 0) _ rfl ((L27.set 0 (.string o1)).set 1 (.string o2)) Tryz.underlying25 rfl (by kernel_rfl)) rfl ?_
 exact ⟨rfl, below_set (below_set (below_step (below_step hB' hb6) hb7) (Nat.le_add_right _ 2)) (Nat.le_add_right _ 2)⟩
set_option maxRecDepth 100000 in
theorem rat_Add (p q : Rat) (w : World) (hp : Pow w) (h1 : Sq p) (h2 : Sq q) :
  Calls Tryz.prog 19 #[rv p, rv q] w fun e w' => e = .returned (.tuple #[rv (p + q), .int .i64 0]) ∧ Below w.heap.size w w' := by
 have fa : fit (p.num * q.den) := fit_mulS h1.1 (sm_den q h2)
 have fb : fit (q.num * p.den) := fit_mulS h2.1 (sm_den p h1)
 have fz : fit (p.num * q.den + q.num * p.den) := fit_of (k := 181) (abs_add_lt (abs_mul_lt h1.1 (sm_den q h2)) (abs_mul_lt h2.1 (sm_den p h1))) (by decide)
 have S := fun W hb => rat_sum 48 p q (p.num * q.den + q.num * p.den) W (hp.below hb) h1 h2 fz (enters_of Tryz.func48 (by kernel_rfl) rfl) (fun W' hb' => by
  have := int_Add (p.num * q.den) (q.num * p.den) W' ((hp.below hb).below hb') fa fb
  unfold outT outC at this
  rw [if_pos fz, if_pos fz] at this
  exact this)
 rw [← Rat.add_def'] at S
 unfold rv at *
 generalize itx (p + q).num = o1 at *
 generalize itx ((p + q).den : Int) = o2 at *
 generalize itx p.num = s1 at *
 generalize itx (p.den : Int) = s2 at *
 generalize itx q.num = s3 at *
 generalize itx (q.den : Int) = s4 at *
 clear fa fb fz h1 h2
 have hB0 : Below w.heap.size w (((w.alloc (.cells #[.string s1, .string s2] 25)).alloc (.cells #[.string s3, .string s4] 25)).alloc (.cells #[.string ⟨#[]⟩, .string ⟨#[]⟩] 25)) := below_alloc (below_alloc (below_alloc (Below.refl _ _) _) _) _
 have hk2 := Blk.new ((w.alloc (.cells #[.string s1, .string s2] 25)).alloc (.cells #[.string s3, .string s4] 25)) #[.string ⟨#[]⟩, .string ⟨#[]⟩] 25
 rw [World.size_alloc, World.size_alloc] at hk2
 go_enter Tryz.func19, Tryz.ntmps19
 go_wp2_with (go_at_call 47; refine (S _ hB0).mono ?_; clear S; rintro e w4 ⟨rfl, hb4⟩; have L2 := hk2.below hb4; obtain ⟨r0, r1, q0, q1⟩ := L2.two)
 refine bodyPost_ret (results_ct rfl _ _ (w.heap.size + 2) 25 #[.string o1, .string o2] (0, 0) _ rfl ((L2.set 0 (.string o1)).set 1 (.string o2)) Tryz.underlying25 rfl (by kernel_rfl)) rfl ?_
 exact ⟨rfl, below_set (below_set (below_step hB0 hb4) (Nat.le_add_right _ 2)) (Nat.le_add_right _ 2)⟩
set_option maxRecDepth 100000 in
theorem rat_Sub (p q : Rat) (w : World) (hp : Pow w) (h1 : Sq p) (h2 : Sq q) :
  Calls Tryz.prog 20 #[rv p, rv q] w fun e w' => e = .returned (.tuple #[rv (p - q), .int .i64 0]) ∧ Below w.heap.size w w' := by
 have fa : fit (p.num * q.den) := fit_mulS h1.1 (sm_den q h2)
 have fb : fit (q.num * p.den) := fit_mulS h2.1 (sm_den p h1)
 have fz : fit (p.num * q.den - q.num * p.den) := fit_of (k := 181) (abs_sub_lt (abs_mul_lt h1.1 (sm_den q h2)) (abs_mul_lt h2.1 (sm_den p h1))) (by decide)
 have S := fun W hb => rat_sum 49 p q (p.num * q.den - q.num * p.den) W (hp.below hb) h1 h2 fz (enters_of Tryz.func49 (by kernel_rfl) rfl) (fun W' hb' => by
  have := int_Sub (p.num * q.den) (q.num * p.den) W' ((hp.below hb).below hb') fa fb
  unfold outT outC at this
  rw [if_pos fz, if_pos fz] at this
  exact this)
 rw [← Rat.sub_def'] at S
 unfold rv at *
 generalize itx (p - q).num = o1 at *
 generalize itx ((p - q).den : Int) = o2 at *
 generalize itx p.num = s1 at *
 generalize itx (p.den : Int) = s2 at *
 generalize itx q.num = s3 at *
 generalize itx (q.den : Int) = s4 at *
 clear fa fb fz h1 h2
 have hB0 : Below w.heap.size w (((w.alloc (.cells #[.string s1, .string s2] 25)).alloc (.cells #[.string s3, .string s4] 25)).alloc (.cells #[.string ⟨#[]⟩, .string ⟨#[]⟩] 25)) := below_alloc (below_alloc (below_alloc (Below.refl _ _) _) _) _
 have hk2 := Blk.new ((w.alloc (.cells #[.string s1, .string s2] 25)).alloc (.cells #[.string s3, .string s4] 25)) #[.string ⟨#[]⟩, .string ⟨#[]⟩] 25
 rw [World.size_alloc, World.size_alloc] at hk2
 go_enter Tryz.func20, Tryz.ntmps20
 go_wp2_with (go_at_call 47; refine (S _ hB0).mono ?_; clear S; rintro e w4 ⟨rfl, hb4⟩; have L2 := hk2.below hb4; obtain ⟨r0, r1, q0, q1⟩ := L2.two)
 refine bodyPost_ret (results_ct rfl _ _ (w.heap.size + 2) 25 #[.string o1, .string o2] (0, 0) _ rfl ((L2.set 0 (.string o1)).set 1 (.string o2)) Tryz.underlying25 rfl (by kernel_rfl)) rfl ?_
 exact ⟨rfl, below_set (below_set (below_step hB0 hb4) (Nat.le_add_right _ 2)) (Nat.le_add_right _ 2)⟩
set_option maxHeartbeats 4000000 in
set_option maxRecDepth 100000 in
theorem rat_Mul (p q : Rat) (w : World) (hp : Pow w) (h1 : Sq p) (h2 : Sq q) :
  Calls Tryz.prog 51 #[rv p, rv q] w fun e w' => e = .returned (.tuple #[rv (p * q), .int .i64 0]) ∧ Below w.heap.size w w' := by
 have fz : fit (p.num * q.num) := fit_mulS h1.1 h2.1
 have fd : fit ((p.den : Int) * (q.den : Int)) := fit_mulS (sm_den p h1) (sm_den q h2)
 have M1 := fun b W hb hk => rat_mul b p.num q.num W (hp.below hb) hk h1.n h2.n fz
 have M3 := fun b W hb hk => rat_mul b p.den q.den W (hp.below hb) hk h1.d h2.d fd
 have RD := fun b W hb hk => rat_reduced b (p.num * q.num) ((p.den : Int) * (q.den : Int)) W (hp.below hb) hk fz fd (by have := p.den_pos; have := q.den_pos; exact Int.mul_pos (by omega) (by omega))
 rw [show ((p.den : Int) * (q.den : Int)).toNat = p.den * q.den by rw [← Int.natCast_mul, Int.toNat_natCast], ← Rat.mul_def'] at RD
 have CK := fun b g' W hb hk hg => rat_check b g' p q W (hp.below hb) h1 h2 hk hg
 obtain ⟨F0, F1, F2, F3, F4, F5⟩ := sumW_facts w (itx p.num) (itx (p.den : Int)) (itx q.num) (itx (q.den : Int))
 unfold rv at *
 generalize itx (p * q).num = o1 at *
 generalize itx ((p * q).den : Int) = o2 at *
 generalize itx (p.num * q.num) = t1 at *
 generalize itx ((p.den : Int) * (q.den : Int)) = t3 at *
 generalize itx p.num = s1 at *
 generalize itx (p.den : Int) = s2 at *
 generalize itx q.num = s3 at *
 generalize itx (q.den : Int) = s4 at *
 clear h1 h2 fz fd
 go_enter Tryz.func51, Tryz.ntmps51
 go_wp2_with (first | (go_at_call 117; refine (CK _ _ _ F0 F4 F5).mono ?_; clear CK; rintro e w2 ⟨rfl, hb2⟩; have hB2 := below_step F0 hb2; have K0 := F1.below hb2; have K1 := F2.below hb2; have K2 := F3.below hb2; have K3 := F4.below hb2; have c0 := K0.cell 0; have c1 := K1.cell 0) | (go_at_call 119; refine (M1 _ _ hB2 K3).mono ?_; clear M1; rintro e w3 ⟨rfl, hb3⟩; have hB3 := below_step hB2 hb3; have c01 := (K0.below hb3).cell 1; have c11 := (K1.below hb3).cell 1) | (go_at_call 119; refine (M3 _ _ hB3 (K3.below hb3)).mono ?_; clear M3; rintro e w6 ⟨rfl, hb6⟩; have hB6 := below_step hB3 hb6) | (go_at_call 120; refine (RD _ _ hB6 ((K3.below hb3).below hb6)).mono ?_; clear RD; rintro e w7 ⟨rfl, hb7⟩; have L27 := ((K2.below hb3).below hb6).below hb7; obtain ⟨r0, r1, q0, q1⟩ := L27.two))
 refine bodyPost_ret (results_ct rfl _ _ (w.heap.size + 2) 25 #[.string o1, .string o2] (0, 0) _ rfl ((L27.set 0 (.string o1)).set 1 (.string o2)) Tryz.underlying25 rfl (by kernel_rfl)) rfl ?_
 exact ⟨rfl, below_set (below_set (below_step hB6 hb7) (Nat.le_add_right _ 2)) (Nat.le_add_right _ 2)⟩
end Go.Proofs.YtociicfjhgfgpaaGreatDoor
namespace Go.Proofs.YtociicfjhgfgpaaGreatDoor
open Go
variable {P : Program} {ops : Array Oper} {Q : Exit → Act → World → Prop} {md : Region.Mode} {C : World → Prop} {D : Nat → World → Prop} {ex : Nat → Bool}
def wpAnyD (P : Program) (md : Region.Mode) (ops : Array Oper) (Q : Exit → Act → World → Prop) (D : Nat → World → Prop) : Nat → Array Bool → Act → World → Prop
 | 0, listed, a, w => Region.ready md ops listed = [] ∧ Q .normal a w
 | fuel + 1, listed, a, w =>
  (Region.ready md ops listed = [] → Q .normal a w) ∧
  ∀ i ∈ Region.ready md ops listed, wpOp P ops Q i (fun a' w' => D i w' ∧ wpAnyD P md ops Q D fuel (listed.setIfInBounds i true) a' w') a w
theorem wpAny_of_D : ∀ (fuel : Nat) (listed : Array Bool) (a : Act) (w : World), wpAnyD P md ops Q D fuel listed a w → wpAny P md ops Q fuel listed a w
 | 0, _, _, _, h => h
 | fuel + 1, _, _, _, h => ⟨h.1, fun i hi => wpOp_mono (fun a' w' h' => wpAny_of_D fuel _ a' w' h'.2) (h.2 i hi)⟩
theorem wp_region_D {id : Nat} {a : Act} {w : World} (D : Nat → World → Prop) (hm : P.follows .mixedOrders = true)
  (h : wpAnyD P .any ops Q D ops.size (Array.replicate ops.size false) a w.drew) : (Code.region id ops true).wp P Q a w :=
 wp_region_any hm (wpAny_of_D _ _ _ _ h)
theorem wpAnyD_first {i : Nat} {oi : Oper} {v : Value} (hi : ops[i]? = some oi) (hsel : ∀ (j : Nat) (o : Oper) cs b, ops[j]? = some o → o.op ≠ .select cs b)
  (hex : ∀ j oj, ops[j]? = some oj → ex j = true → ∃ e ∈ oj.after, Region.binds md e = true ∧ e.on = i)
  (hQ : ∀ c a w, Q (.panic c) (a.put oi.dst v) w → Q (.panic c) a w) (hDi : ∀ w, C w → D i w) (hD : ∀ j, ex j = false → ∀ w, D j w → C w) :
  ∀ (fuel : Nat) (listed : Array Bool) (a : Act) (w : World), C w →
   (∀ j oj, ops[j]? = some oj → j ≠ i → listed.getD j true = false → (∀ e ∈ oj.after, Region.binds md e = true → e.on ≠ i) → oi.apart ops oj = true) →
   i ∈ Region.ready md ops listed → YieldsC P ops C oi v a →
   wpAnyD P md ops Q D fuel (listed.setIfInBounds i true) (a.put oi.dst v) w → wpAnyD P md ops Q D (fuel + 1) listed a w := by
 intro fuel
 induction fuel with
 | zero =>
  intro listed a w hC _ hr hy H
  refine ⟨fun h => (by rw [h] at hr; cases hr), fun j hj => ?_⟩
  by_cases hji : j = i
  ·subst hji; exact hy.wpOp hi hC ⟨hDi _ hC, H⟩
  ·have := ready_mono hj hji
   rw [H.1] at this
   cases this
 | succ fuel ih =>
  intro listed a w hC hfree hr hy H
  refine ⟨fun h => (by rw [h] at hr; cases hr), fun j hj => ?_⟩
  by_cases hji : j = i
  ·subst hji; exact hy.wpOp hi hC ⟨hDi _ hC, H⟩
  ·have h1 := H.2 j (ready_mono hj hji)
   obtain ⟨hjun, oj, hoj, hall⟩ := mem_ready.1 hj
   have hnot : ∀ e ∈ oj.after, Region.binds md e = true → e.on ≠ i := fun e he hb heq => by
    have h1 := hall e he hb
    have h0 := (mem_ready.1 hr).1
    rw [heq] at h1
    rcases Nat.lt_or_ge i listed.size with h' | h'
    ·simp [h'] at h0 h1; rw [h0] at h1; cases h1
    ·simp [Array.getElem?_eq_none h'] at h1
   have hxj : ex j = false := by
    cases hx : ex j with
    | false => rfl
    | true =>
     obtain ⟨e, he, hb, heq⟩ := hex j oj hoj hx
     exact absurd heq (hnot e he hb)
   have h2 := wpOp_putC hoj (hfree j oj hoj hji hjun hnot) (fun cs b => hsel i oi cs b hi) (fun cs b => hsel j oj cs b hoj) hQ hy h1
   have hfree' : ∀ k ok, ops[k]? = some ok → k ≠ i → (listed.setIfInBounds j true).getD k true = false →
     (∀ e ∈ ok.after, Region.binds md e = true → e.on ≠ i) → oi.apart ops ok = true := fun k ok hk hki hun hno => by
    refine hfree k ok hk hki ?_ hno
    by_cases hjk : j = k
    ·subst hjk; exact hjun
    ·rw [getD_set_ne true hjk] at hun; exact hun
   refine wpOp_mono (fun a' w' h3 => ⟨h3.2.1, ih (listed.setIfInBounds j true) a' w' (hD j hxj _ h3.2.1) hfree' (ready_mono hr (Ne.symm hji)) h3.1 ?_⟩) h2
   rw [Array.setIfInBounds_comm _ _ hji]
   exact h3.2.2
theorem wpAnyD_take (ex : Nat → Bool) (C : World → Prop) {i : Nat} {oi : Oper} {fuel : Nat} {listed : Array Bool} {a : Act} {w : World} (hi : ops[i]? = some oi)
  (hs : Region.noSelect ops = true) (hf : Region.free md ops listed i = true) (hr : (Region.ready md ops listed).contains i = true) (hl : lateOn md ops ex i = true)
  (hQ : ∀ v c a w, Q (.panic c) (a.put oi.dst v) w → Q (.panic c) a w) (hDi : ∀ w, C w → D i w) (hD : ∀ j, ex j = false → ∀ w, D j w → C w) (hC : C w) (hw : Region.wanted oi (yielded ops a.tmps) = true)
  (h : ∃ v, (∀ w, C w → (execOp a.eval oi).run P w = .ok (.value v) w) ∧ wpAnyD P md ops Q D fuel (listed.setIfInBounds i true) (a.put oi.dst v) w) : wpAnyD P md ops Q D (fuel + 1) listed a w := by
 obtain ⟨v, hy, h⟩ := h
 exact wpAnyD_first hi (Region.noSelect_spec hs) (lateOn_spec hl).2 (hQ v) hDi hD fuel listed a w hC (Region.free_spec hi hf) (by simpa using hr) (.inl ⟨hw, hy⟩) h
theorem wpAnyD_step {i : Nat} {o : Oper} {fuel : Nat} {listed : Array Bool} {a : Act} {w : World} (hr : Region.ready md ops listed = [i]) (ho : ops[i]? = some o)
  (h : ∀ K : Act → World → Prop, (∀ a' w', D i w' → wpAnyD P md ops Q D fuel (listed.setIfInBounds i true) a' w' → K a' w') → if Region.wanted o (yielded ops a.tmps) = true then Oper.wp P o a w K Q else K (a.put o.dst undef) w) : wpAnyD P md ops Q D (fuel + 1) listed a w := by
 refine ⟨fun h0 => (by rw [hr] at h0; cases h0), fun j hj => ?_⟩
 rw [hr] at hj
 obtain rfl : j = i := by simpa using hj
 have h1 := h (fun a' w' => D j w' ∧ wpAnyD P md ops Q D fuel (listed.setIfInBounds j true) a' w') (fun a' w' h1 h2 => ⟨h1, h2⟩)
 unfold wpOp
 rw [ho]
 simp only
 by_cases hw : Region.wanted o (yielded ops a.tmps) = true
 ·rw [if_pos hw] at h1 ⊢
  exact .inl h1
 ·rw [if_neg hw] at h1 ⊢
  exact h1
theorem wpAnyD_done {listed : Array Bool} {a : Act} {w : World} (hr : Region.ready md ops listed = []) (h : Q .normal a w) : ∀ fuel, wpAnyD P md ops Q D fuel listed a w
 | 0 => ⟨hr, h⟩
 | _ + 1 => ⟨fun _ => h, by rw [hr]; simp⟩
end Go.Proofs.YtociicfjhgfgpaaGreatDoor

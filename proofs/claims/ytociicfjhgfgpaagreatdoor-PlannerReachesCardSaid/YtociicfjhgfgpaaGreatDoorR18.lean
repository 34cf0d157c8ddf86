/- rational: sum, Add, Sub, Mul: the walks. As Cls: what each operation must leave is told apart (D): for regions with more than one store. rational: Compare: the walk. -/
import Derived.Test.YtociicfjhgfgpaaGreatDoorR17
import Derived.Test.YtociicfjhgfgpaaGreatDoorR13
import Derived.ScopeJumps
import Derived.WalkMore
set_option linter.unusedVariables false
set_option linter.unusedSimpArgs false
set_option maxHeartbeats 8000000
set_option maxRecDepth 100000
namespace Go.Proofs.YtociicfjhgfgpaaGreatDoor
open Go.RowKit Go.Shelf Go.Lib Go.Proofs.YtociicfjhgfgpaaGreatDoorW.PrintWords
def sumW (w : World) (a b c d : ByteArray) : World := ((((w.alloc (.cells #[.string a, .string b] 25)).alloc (.cells #[.string c, .string d] 25)).alloc (.cells #[.string ⟨#[]⟩, .string ⟨#[]⟩] 25)).alloc (.cells #[.bool false] 179)).alloc (.cells #[.string a, .string b, .string c, .string d] 25)
theorem sumW_facts (w : World) (a b c d : ByteArray) : Below w.heap.size w (sumW w a b c d) ∧ Blk (sumW w a b c d) w.heap.size #[.string a, .string b] 25 ∧ Blk (sumW w a b c d) (w.heap.size + 1) #[.string c, .string d] 25 ∧ Blk (sumW w a b c d) (w.heap.size + 2) #[.string ⟨#[]⟩, .string ⟨#[]⟩] 25 ∧ Blk (sumW w a b c d) (w.heap.size + 3) #[.bool false] 179 ∧ Blk (sumW w a b c d) (w.heap.size + 4) #[.string a, .string b, .string c, .string d] 25 := by
 unfold sumW
 refine ⟨bZa (bZa (bZa (bZa (bZa (Below.refl _ _) _) _) _) _) _, ((((Blk.new w _ _).alloc _).alloc _).alloc _).alloc _, ?_, ?_, ?_, ?_⟩
 ·have := (((Blk.new (w.alloc (.cells #[.string a, .string b] 25)) #[.string c, .string d] 25).alloc (.cells #[.string ⟨#[]⟩, .string ⟨#[]⟩] 25)).alloc (.cells #[.bool false] 179)).alloc (.cells #[.string a, .string b, .string c, .string d] 25)
  rwa [World.size_alloc] at this
 ·have := ((Blk.new ((w.alloc (.cells #[.string a, .string b] 25)).alloc (.cells #[.string c, .string d] 25)) #[.string ⟨#[]⟩, .string ⟨#[]⟩] 25).alloc (.cells #[.bool false] 179)).alloc (.cells #[.string a, .string b, .string c, .string d] 25)
  rwa [World.size_alloc, World.size_alloc] at this
 ·have := (Blk.new (((w.alloc (.cells #[.string a, .string b] 25)).alloc (.cells #[.string c, .string d] 25)).alloc (.cells #[.string ⟨#[]⟩, .string ⟨#[]⟩] 25)) #[.bool false] 179).alloc (.cells #[.string a, .string b, .string c, .string d] 25)
  rwa [World.size_alloc, World.size_alloc, World.size_alloc] at this
 ·have := Blk.new ((((w.alloc (.cells #[.string a, .string b] 25)).alloc (.cells #[.string c, .string d] 25)).alloc (.cells #[.string ⟨#[]⟩, .string ⟨#[]⟩] 25)).alloc (.cells #[.bool false] 179)) #[.string a, .string b, .string c, .string d] 25
  rwa [World.size_alloc, World.size_alloc, World.size_alloc, World.size_alloc] at this
theorem rat_sum (g : Nat) (p q : Rat) (z : Int) (w : World) (hp : Pow w) (h1 : Sq p) (h2 : Sq q) (fz : fit z) (eg : ∀ args w, (callFunc g args).run Tryz.prog w = .ok (.enter g args) w)
  (hf : ∀ W, Below w.heap.size w W → Calls Tryz.prog g #[.string (itx (p.num * q.den)), .string (itx (q.num * p.den))] W fun e w' => e = .returned (.tuple #[.string (itx z), .int .i64 0]) ∧ Below W.heap.size W w') :
  Calls Tryz.prog 47 #[.func (.func g) #[] #[], rv p, rv q] w fun e w' => e = .returned (.tuple #[rv (mkRat z (p.den * q.den)), .int .i64 0]) ∧ Below w.heap.size w w' := by
 have M1 := fun b W hb hk => rat_mul b p.num q.den W (hp.below hb) hk h1.n h2.d (fit_mulS h1.1 (sm_den q h2))
 have M2 := fun b W hb hk => rat_mul b q.num p.den W (hp.below hb) hk h2.n h1.d (fit_mulS h2.1 (sm_den p h1))
 have fd : fit ((p.den : Int) * (q.den : Int)) := fit_mulS (sm_den p h1) (sm_den q h2)
 have M3 := fun b W hb hk => rat_mul b p.den q.den W (hp.below hb) hk h1.d h2.d fd
 have RD := fun b W hb hk => rat_reduced b z ((p.den : Int) * (q.den : Int)) W (hp.below hb) hk fz fd (by have := p.den_pos; have := q.den_pos; exact Int.mul_pos (by omega) (by omega))
 rw [show ((p.den : Int) * (q.den : Int)).toNat = p.den * q.den by rw [← Int.natCast_mul, Int.toNat_natCast]] at RD
 have CK := fun b g' W hb hk hg => rat_check b g' p q W (hp.below hb) h1 h2 hk hg
 have DO := fun b W (hb : Below w.heap.size w W) hk => rat_do b g _ _ _ W hk eg (fun W' hb' => hf W' (bZs hb hb'))
 obtain ⟨F0, F1, F2, F3, F4, F5⟩ := sumW_facts w (itx p.num) (itx (p.den : Int)) (itx q.num) (itx (q.den : Int))
 unfold rv at *
 generalize itx (mkRat z (p.den * q.den)).num = o1 at *
 generalize itx ((mkRat z (p.den * q.den)).den : Int) = o2 at *
 generalize itx (p.num * q.den) = t1 at *
 generalize itx (q.num * p.den) = t2 at *
 generalize itx ((p.den : Int) * (q.den : Int)) = t3 at *
 generalize itx z = t4 at *
 generalize itx p.num = s1 at *
 generalize itx (p.den : Int) = s2 at *
 generalize itx q.num = s3 at *
 generalize itx (q.den : Int) = s4 at *
 clear h1 h2 fz fd hf eg
 go_enter Tryz.func47, Tryz.ntmps47
 go_wp2_with (go_at_call 117; refine (CK _ _ _ F0 F4 F5).mono ?_; clear CK; rintro e w2 ⟨rfl, hb2⟩)
 have hB2 := bZs F0 hb2
 have K0 := F1.below hb2
 have K1 := F2.below hb2
 have K2 := F3.below hb2
 have K3 := F4.below hb2
 clear F0 F1 F2 F3 F4 F5 hb2
 have hD := bZd hB2
 have hC0 : Below w2.drew.heap.size w2.drew w2.drew := Below.refl _ _
 refine wp_region_C (fun _ => false) (fun W => Below w2.drew.heap.size w2.drew W) (by kernel_rfl) ?_
 refine wZt (i := 0) rfl (by kernel_rfl) (by kernel_rfl) (by kernel_rfl) (by kernel_rfl) (fun _ _ _ _ h => h) hC0 (by rfl) ?_
 apply Exists.intro
 refine ⟨fun W hW => ?_, ?_⟩
 ·go_simp
  try rfl
 refine wZt (i := 1) rfl (by kernel_rfl) (by kernel_rfl) (by kernel_rfl) (by kernel_rfl) (fun _ _ _ _ h => h) hC0 (by rfl) ?_
 apply Exists.intro
 refine ⟨fun W hW => ?_, ?_⟩
 ·go_simp
  try rfl
 refine wZt (i := 2) rfl (by kernel_rfl) (by kernel_rfl) (by kernel_rfl) (by kernel_rfl) (fun _ _ _ _ h => h) hC0 (by rfl) ?_
 apply Exists.intro
 refine ⟨fun W hW => ?_, ?_⟩
 ·go_simp
  try rfl
 refine wZt (i := 3) rfl (by kernel_rfl) (by kernel_rfl) (by kernel_rfl) (by kernel_rfl) (fun _ _ _ _ h => h) hC0 (by rfl) ?_
 apply Exists.intro
 refine ⟨fun W hW => ?_, ?_⟩
 ·go_simp
  try rfl
 refine wZt (i := 4) rfl (by kernel_rfl) (by kernel_rfl) (by kernel_rfl) (by kernel_rfl) (fun _ _ _ _ h => h) hC0 (by rfl) ?_
 apply Exists.intro
 refine ⟨fun W hW => ?_, ?_⟩
 ·have e0 := (K0.drew.below hW).cell 0
  have e1 := (K0.drew.below hW).cell 1
  have e2 := (K1.drew.below hW).cell 0
  have e3 := (K1.drew.below hW).cell 1
  go_simp
  try rfl
 refine wZt (i := 5) rfl (by kernel_rfl) (by kernel_rfl) (by kernel_rfl) (by kernel_rfl) (fun _ _ _ _ h => h) hC0 (by rfl) ?_
 apply Exists.intro
 refine ⟨fun W hW => ?_, ?_⟩
 ·go_simp
  try rfl
 refine wZt (i := 6) rfl (by kernel_rfl) (by kernel_rfl) (by kernel_rfl) (by kernel_rfl) (fun _ _ _ _ h => h) hC0 (by rfl) ?_
 apply Exists.intro
 refine ⟨fun W hW => ?_, ?_⟩
 ·have e0 := (K0.drew.below hW).cell 0
  have e1 := (K0.drew.below hW).cell 1
  have e2 := (K1.drew.below hW).cell 0
  have e3 := (K1.drew.below hW).cell 1
  go_simp
  try rfl
 refine wZt (i := 8) rfl (by kernel_rfl) (by kernel_rfl) (by kernel_rfl) (by kernel_rfl) (fun _ _ _ _ h => h) hC0 (by rfl) ?_
 apply Exists.intro
 refine ⟨fun W hW => ?_, ?_⟩
 ·go_simp
  try rfl
 refine wZt (i := 9) rfl (by kernel_rfl) (by kernel_rfl) (by kernel_rfl) (by kernel_rfl) (fun _ _ _ _ h => h) hC0 (by rfl) ?_
 apply Exists.intro
 refine ⟨fun W hW => ?_, ?_⟩
 ·go_simp
  try rfl
 refine wZt (i := 10) rfl (by kernel_rfl) (by kernel_rfl) (by kernel_rfl) (by kernel_rfl) (fun _ _ _ _ h => h) hC0 (by rfl) ?_
 apply Exists.intro
 refine ⟨fun W hW => ?_, ?_⟩
 ·have e0 := (K0.drew.below hW).cell 0
  have e1 := (K0.drew.below hW).cell 1
  have e2 := (K1.drew.below hW).cell 0
  have e3 := (K1.drew.below hW).cell 1
  go_simp
  try rfl
 refine wZt (i := 11) rfl (by kernel_rfl) (by kernel_rfl) (by kernel_rfl) (by kernel_rfl) (fun _ _ _ _ h => h) hC0 (by rfl) ?_
 apply Exists.intro
 refine ⟨fun W hW => ?_, ?_⟩
 ·go_simp
  try rfl
 refine wZt (i := 12) rfl (by kernel_rfl) (by kernel_rfl) (by kernel_rfl) (by kernel_rfl) (fun _ _ _ _ h => h) hC0 (by rfl) ?_
 apply Exists.intro
 refine ⟨fun W hW => ?_, ?_⟩
 ·have e0 := (K0.drew.below hW).cell 0
  have e1 := (K0.drew.below hW).cell 1
  have e2 := (K1.drew.below hW).cell 0
  have e3 := (K1.drew.below hW).cell 1
  go_simp
  try rfl
 refine wZs (i := 7) (by kernel_rfl) rfl (fun K hK => ?_)
 go_simp
 go_at_call 119
 refine (M1 _ _ hD K3.drew).mono ?_
 rintro e w3 ⟨rfl, hb3⟩
 refine hK _ _ (fun _ => hb3) ?_
 clear hK K
 refine wZs (i := 13) (by kernel_rfl) rfl (fun K hK => ?_)
 go_simp
 go_at_call 119
 refine (M2 _ _ (bZs hD hb3) (K3.drew.below hb3)).mono ?_
 rintro e w4 ⟨rfl, hb4⟩
 refine hK _ _ (fun _ => bZs hb3 hb4) ?_
 clear hK K
 refine wZs (i := 14) (by kernel_rfl) rfl (fun K hK => ?_)
 go_simp
 go_at_call 118
 refine (DO _ _ (bZs (bZs hD hb3) hb4) ((K3.drew.below hb3).below hb4)).mono ?_
 rintro e w5 ⟨rfl, hb5⟩
 refine hK _ _ (fun _ => bZs (bZs hb3 hb4) hb5) ?_
 clear hK K
 refine wZt (i := 15) rfl (by kernel_rfl) (by kernel_rfl) (by kernel_rfl) (by kernel_rfl) (fun _ _ _ _ h => h) (bZs (bZs hb3 hb4) hb5) (by rfl) ?_
 apply Exists.intro
 refine ⟨fun W hW => ?_, ?_⟩
 ·go_simp
  try rfl
 refine wpAnyC_done (by kernel_rfl) ?_ _
 have hb' := bZs (bZs hb3 hb4) hb5
 have hB' := bZs hD hb'
 have L0 := K0.drew.below hb'
 have L1 := K1.drew.below hb'
 have L2 := K2.drew.below hb'
 have L3 := K3.drew.below hb'
 have c01 := L0.cell 1
 have c11 := L1.cell 1
 go_wp2_with (first | (go_at_call 119; refine (M3 _ _ hB' L3).mono ?_; clear M3; rintro e w6 ⟨rfl, hb6⟩) | (go_at_call 120; refine (RD _ _ (bZs hB' hb6) (L3.below hb6)).mono ?_; clear RD; rintro e w7 ⟨rfl, hb7⟩; have L27 := (L2.below hb6).below hb7; obtain ⟨r0, r1, q0, q1⟩ := L27.two))
 refine bodyPost_ret (results_ct rfl _ _ (w.heap.size + 2) 25 #[.string o1, .string o2] (0, 0) _ rfl ((L27.set 0 (.string o1)).set 1 (.string o2)) Tryz.underlying25 rfl (by kernel_rfl)) rfl ?_
 exact ⟨rfl, bZe (bZe (bZs (bZs hB' hb6) hb7) (Nat.le_add_right _ 2)) (Nat.le_add_right _ 2)⟩
theorem rat_Add (p q : Rat) (w : World) (hp : Pow w) (h1 : Sq p) (h2 : Sq q) :
  Calls Tryz.prog 19 #[rv p, rv q] w fun e w' => e = .returned (.tuple #[rv (p + q), .int .i64 0]) ∧ Below w.heap.size w w' := by
 have fa : fit (p.num * q.den) := fit_mulS h1.1 (sm_den q h2)
 have fb : fit (q.num * p.den) := fit_mulS h2.1 (sm_den p h1)
 have fz : fit (p.num * q.den + q.num * p.den) := fit_of (k := 181) (abs_add_lt (abs_mul_lt h1.1 (sm_den q h2)) (abs_mul_lt h2.1 (sm_den p h1))) (by decide)
 have S := fun W hb => rat_sum 48 p q (p.num * q.den + q.num * p.den) W (hp.below hb) h1 h2 fz (enters_of Tryz.func48 (by kernel_rfl) rfl) (fun W' hb' => by
  have := int_Add (p.num * q.den) (q.num * p.den) W' ((hp.below hb).below hb') fa fb
  unfold outT outC at this
  rw [if_pos fz, if_pos fz] at this
  exact this)
 rw [← Rat.add_def'] at S
 unfold rv at *
 generalize itx (p + q).num = o1 at *
 generalize itx ((p + q).den : Int) = o2 at *
 generalize itx p.num = s1 at *
 generalize itx (p.den : Int) = s2 at *
 generalize itx q.num = s3 at *
 generalize itx (q.den : Int) = s4 at *
 clear fa fb fz h1 h2
 have hB0 : Below w.heap.size w (((w.alloc (.cells #[.string s1, .string s2] 25)).alloc (.cells #[.string s3, .string s4] 25)).alloc (.cells #[.string ⟨#[]⟩, .string ⟨#[]⟩] 25)) := bZa (bZa (bZa (Below.refl _ _) _) _) _
 have hk2 := Blk.new ((w.alloc (.cells #[.string s1, .string s2] 25)).alloc (.cells #[.string s3, .string s4] 25)) #[.string ⟨#[]⟩, .string ⟨#[]⟩] 25
 rw [World.size_alloc, World.size_alloc] at hk2
 go_enter Tryz.func19, Tryz.ntmps19
 go_wp2_with (go_at_call 47; refine (S _ hB0).mono ?_; clear S; rintro e w4 ⟨rfl, hb4⟩; have L2 := hk2.below hb4; obtain ⟨r0, r1, q0, q1⟩ := L2.two)
 refine bodyPost_ret (results_ct rfl _ _ (w.heap.size + 2) 25 #[.string o1, .string o2] (0, 0) _ rfl ((L2.set 0 (.string o1)).set 1 (.string o2)) Tryz.underlying25 rfl (by kernel_rfl)) rfl ?_
 exact ⟨rfl, bZe (bZe (bZs hB0 hb4) (Nat.le_add_right _ 2)) (Nat.le_add_right _ 2)⟩
theorem rat_Sub (p q : Rat) (w : World) (hp : Pow w) (h1 : Sq p) (h2 : Sq q) :
  Calls Tryz.prog 20 #[rv p, rv q] w fun e w' => e = .returned (.tuple #[rv (p - q), .int .i64 0]) ∧ Below w.heap.size w w' := by
 have fa : fit (p.num * q.den) := fit_mulS h1.1 (sm_den q h2)
 have fb : fit (q.num * p.den) := fit_mulS h2.1 (sm_den p h1)
 have fz : fit (p.num * q.den - q.num * p.den) := fit_of (k := 181) (abs_sub_lt (abs_mul_lt h1.1 (sm_den q h2)) (abs_mul_lt h2.1 (sm_den p h1))) (by decide)
 have S := fun W hb => rat_sum 49 p q (p.num * q.den - q.num * p.den) W (hp.below hb) h1 h2 fz (enters_of Tryz.func49 (by kernel_rfl) rfl) (fun W' hb' => by
  have := int_Sub (p.num * q.den) (q.num * p.den) W' ((hp.below hb).below hb') fa fb
  unfold outT outC at this
  rw [if_pos fz, if_pos fz] at this
  exact this)
 rw [← Rat.sub_def'] at S
 unfold rv at *
 generalize itx (p - q).num = o1 at *
 generalize itx ((p - q).den : Int) = o2 at *
 generalize itx p.num = s1 at *
 generalize itx (p.den : Int) = s2 at *
 generalize itx q.num = s3 at *
 generalize itx (q.den : Int) = s4 at *
 clear fa fb fz h1 h2
 have hB0 : Below w.heap.size w (((w.alloc (.cells #[.string s1, .string s2] 25)).alloc (.cells #[.string s3, .string s4] 25)).alloc (.cells #[.string ⟨#[]⟩, .string ⟨#[]⟩] 25)) := bZa (bZa (bZa (Below.refl _ _) _) _) _
 have hk2 := Blk.new ((w.alloc (.cells #[.string s1, .string s2] 25)).alloc (.cells #[.string s3, .string s4] 25)) #[.string ⟨#[]⟩, .string ⟨#[]⟩] 25
 rw [World.size_alloc, World.size_alloc] at hk2
 go_enter Tryz.func20, Tryz.ntmps20
 go_wp2_with (go_at_call 47; refine (S _ hB0).mono ?_; clear S; rintro e w4 ⟨rfl, hb4⟩; have L2 := hk2.below hb4; obtain ⟨r0, r1, q0, q1⟩ := L2.two)
 refine bodyPost_ret (results_ct rfl _ _ (w.heap.size + 2) 25 #[.string o1, .string o2] (0, 0) _ rfl ((L2.set 0 (.string o1)).set 1 (.string o2)) Tryz.underlying25 rfl (by kernel_rfl)) rfl ?_
 exact ⟨rfl, bZe (bZe (bZs hB0 hb4) (Nat.le_add_right _ 2)) (Nat.le_add_right _ 2)⟩
theorem rat_Mul (p q : Rat) (w : World) (hp : Pow w) (h1 : Sq p) (h2 : Sq q) :
  Calls Tryz.prog 51 #[rv p, rv q] w fun e w' => e = .returned (.tuple #[rv (p * q), .int .i64 0]) ∧ Below w.heap.size w w' := by
 have fz : fit (p.num * q.num) := fit_mulS h1.1 h2.1
 have fd : fit ((p.den : Int) * (q.den : Int)) := fit_mulS (sm_den p h1) (sm_den q h2)
 have M1 := fun b W hb hk => rat_mul b p.num q.num W (hp.below hb) hk h1.n h2.n fz
 have M3 := fun b W hb hk => rat_mul b p.den q.den W (hp.below hb) hk h1.d h2.d fd
 have RD := fun b W hb hk => rat_reduced b (p.num * q.num) ((p.den : Int) * (q.den : Int)) W (hp.below hb) hk fz fd (by have := p.den_pos; have := q.den_pos; exact Int.mul_pos (by omega) (by omega))
 rw [show ((p.den : Int) * (q.den : Int)).toNat = p.den * q.den by rw [← Int.natCast_mul, Int.toNat_natCast], ← Rat.mul_def'] at RD
 have CK := fun b g' W hb hk hg => rat_check b g' p q W (hp.below hb) h1 h2 hk hg
 obtain ⟨F0, F1, F2, F3, F4, F5⟩ := sumW_facts w (itx p.num) (itx (p.den : Int)) (itx q.num) (itx (q.den : Int))
 unfold rv at *
 generalize itx (p * q).num = o1 at *
 generalize itx ((p * q).den : Int) = o2 at *
 generalize itx (p.num * q.num) = t1 at *
 generalize itx ((p.den : Int) * (q.den : Int)) = t3 at *
 generalize itx p.num = s1 at *
 generalize itx (p.den : Int) = s2 at *
 generalize itx q.num = s3 at *
 generalize itx (q.den : Int) = s4 at *
 clear h1 h2 fz fd
 go_enter Tryz.func51, Tryz.ntmps51
 go_wp2_with (first | (go_at_call 117; refine (CK _ _ _ F0 F4 F5).mono ?_; clear CK; rintro e w2 ⟨rfl, hb2⟩; have hB2 := bZs F0 hb2; have K0 := F1.below hb2; have K1 := F2.below hb2; have K2 := F3.below hb2; have K3 := F4.below hb2; have c0 := K0.cell 0; have c1 := K1.cell 0) | (go_at_call 119; refine (M1 _ _ hB2 K3).mono ?_; clear M1; rintro e w3 ⟨rfl, hb3⟩; have hB3 := bZs hB2 hb3; have c01 := (K0.below hb3).cell 1; have c11 := (K1.below hb3).cell 1) | (go_at_call 119; refine (M3 _ _ hB3 (K3.below hb3)).mono ?_; clear M3; rintro e w6 ⟨rfl, hb6⟩; have hB6 := bZs hB3 hb6) | (go_at_call 120; refine (RD _ _ hB6 ((K3.below hb3).below hb6)).mono ?_; clear RD; rintro e w7 ⟨rfl, hb7⟩; have L27 := ((K2.below hb3).below hb6).below hb7; obtain ⟨r0, r1, q0, q1⟩ := L27.two))
 refine bodyPost_ret (results_ct rfl _ _ (w.heap.size + 2) 25 #[.string o1, .string o2] (0, 0) _ rfl ((L27.set 0 (.string o1)).set 1 (.string o2)) Tryz.underlying25 rfl (by kernel_rfl)) rfl ?_
 exact ⟨rfl, bZe (bZe (bZs hB6 hb7) (Nat.le_add_right _ 2)) (Nat.le_add_right _ 2)⟩
end Go.Proofs.YtociicfjhgfgpaaGreatDoor
namespace Go.Proofs.YtociicfjhgfgpaaGreatDoor
open Go
variable {P : Program} {ops : Array Oper} {Q : Exit → Act → World → Prop} {md : Region.Mode} {C : World → Prop} {D : Nat → World → Prop} {ex : Nat → Bool}
end Go.Proofs.YtociicfjhgfgpaaGreatDoor
namespace Go.Proofs.YtociicfjhgfgpaaGreatDoor
open Go.RowKit Go.Shelf Go.Lib Go.Proofs.YtociicfjhgfgpaaGreatDoorW.PrintWords
open Classical in
noncomputable def rdNat (v : Option Value) : Nat := if h : ∃ d : Nat, v = some (.string (itx (d : Int))) then h.choose else 0
theorem rdNat_itx (d : Nat) : rdNat (some (.string (itx (d : Int)))) = d := by
 have h : ∃ e : Nat, some (Value.string (itx (d : Int))) = some (.string (itx (e : Int))) := ⟨d, rfl⟩
 unfold rdNat
 rw [dif_pos h]
 have h1 := h.choose_spec
 injection h1 with h1
 injection h1 with h1
 have := itx_inj h1
 omega
theorem rdNat_int {z : Int} (h : 0 ≤ z) : rdNat (some (.string (itx z))) = z.toNat := by
 obtain ⟨k, rfl⟩ := Int.eq_ofNat_of_zero_le h
 exact rdNat_itx k
structure CmpN (n d m c s R : Int) : Prop where
 hd : 0 < d
 hc : 0 < c
 fn : fit n
 fd : fit d
 fm : fit m
 fc : fit c
 hs : s = 1 ∨ s = -1
 hR : s * cmpI (n * c) (m * d) = R
def cmpJ18 (w : World) (R : Int) (a : Act) (W : World) : Prop :=
 ∃ (n m d c s : Int) (v0 v1 v4 u6 u7 u8 u9 u10 u11 u12 u13 u14 u15 u16 u17 u18 u19 u20 u21 u22 u23 u24 u25 u26 u27 u28 u29 u30 u31 u32 u33 u34 u35 u36 u37 u38 u39 u40 u41 u42 u43 u44 u45 u46 u47 u48 u49 u50 u51 u52 u53 u54 u55 u56 u57 u58 u59 u60 u61 u62 u63 u64 u65 u66 u67 u68 u69 u70 u71 u72 u73 : Value), a = { tmps := #[v0, v1, .pointer (some ⟨w.heap.size, 0, none⟩), .pointer (some ⟨w.heap.size + 1, 0, none⟩), v4, .int .i64 s, u6, u7, u8, u9, u10, u11, u12, u13, u14, u15, u16, u17, u18, u19, u20, u21, u22, u23, u24, u25, u26, u27, u28, u29, u30, u31, u32, u33, u34, u35, u36, u37, u38, u39, u40, u41, u42, u43, u44, u45, u46, u47, u48, u49, u50, u51, u52, u53, u54, u55, u56, u57, u58, u59, u60, u61, u62, u63, u64, u65, u66, u67, u68, u69, u70, u71, u72, u73], defers := [] } ∧ Below w.heap.size w W ∧ Blk W w.heap.size #[.string (itx n), .string (itx d)] 25 ∧ Blk W (w.heap.size + 1) #[.string (itx m), .string (itx c)] 25 ∧ CmpN n d m c s R
noncomputable def cmpM (w : World) (_ : Act) (W : World) : Nat := rdNat (W.cell? ⟨w.heap.size, 1, none⟩)
theorem zero_text (z : Int) : ((itx z).toList == [48]) = decide (z = 0) := by
 have := itx_eq z 0
 rwa [show (itx 0).toList = [48] by rw [ByteArray.toList_eq]; rfl] at this
theorem cmp_cases (a b : Int) : cmpI a b = 1 ∨ cmpI a b = -1 ∨ cmpI a b = 0 := by
 unfold cmpI
 split
 ·exact .inr (.inl rfl)
 ·split
  ·exact .inr (.inr rfl)
  ·exact .inl rfl
theorem cmp_self (a : Int) : cmpI a a = 0 := by
 unfold cmpI
 rw [if_neg (by omega), if_pos rfl]
theorem cmp_zero {a b : Int} (h : cmpI a b = 0) : a = b := by
 unfold cmpI at h
 split at h
 ·omega
 ·split at h
  ·assumption
  ·omega
theorem rat_Compare (p q : Rat) (w : World) (hp : Pow w) (h1 : Sq p) (h2 : Sq q) :
  Calls Tryz.prog 18 #[rv p, rv q] w fun e w' => e = .returned (.int .i64 (cmpR p q)) ∧ Below w.heap.size w w' := by
 have V1 := fun W hp => rat_Valid p W hp h1
 have V2 := fun W hp => rat_Valid q W hp h2
 have HN0 : CmpN p.num p.den q.num q.den 1 (cmpR p q) := ⟨by have := p.den_pos; omega, by have := q.den_pos; omega, h1.n, h1.d, h2.n, h2.d, .inl rfl, by rw [← cmpR_cross, Int.one_mul]⟩
 obtain ⟨R, hR⟩ : ∃ R, cmpR p q = R := ⟨_, rfl⟩
 rw [hR] at HN0 ⊢
 unfold rv at *
 clear hR h1 h2
 go_enter Tryz.func18, Tryz.ntmps18
 go_wp2
 refine (fun (key : ∀ (a' : Act) (W : World), cmpJ18 w R a' W → Code.wp Tryz.prog _ (Exit.jump 0 (fun a2 W2 => cmpJ18 w R a2 W2 ∧ cmpM w a2 W2 < cmpM w a' W) _) a' W) => wp_scope_jumps (rest := Code.skip.seq _) 0 (cmpJ18 w R) (cmpM w) rfl ?first (fun a' W h => wp_seq (wp_skip (key a' W h)))) ?pass
 case pass =>
  rintro a' W ⟨n, m, d, c, s, v0, v1, v4, u6, u7, u8, u9, u10, u11, u12, u13, u14, u15, u16, u17, u18, u19, u20, u21, u22, u23, u24, u25, u26, u27, u28, u29, u30, u31, u32, u33, u34, u35, u36, u37, u38, u39, u40, u41, u42, u43, u44, u45, u46, u47, u48, u49, u50, u51, u52, u53, u54, u55, u56, u57, u58, u59, u60, u61, u62, u63, u64, u65, u66, u67, u68, u69, u70, u71, u72, u73, rfl, HB, hk0, hk1, HN⟩
  obtain ⟨hd, hc, fn, fd, fm, fc, hs, hRR⟩ := HN
  have D1 := fun W hp => int_Div n d W hp fn fd (by omega)
  have D2 := fun W hp => int_Div m c W hp fm fc (by omega)
  have CM := fun W => int_Compare (n / d) (m / c) W (fit_div d fn) (fit_div c fm)
  have z1 := zero_text (n % d)
  have z2 := zero_text (m % c)
  have c0 := hk0.cell 0
  have c01 := hk0.cell 1
  have HRR := Aside0.mk hRR
  have HS := Aside0.mk hs
  have HD := Aside0.mk (And.intro hd hc)
  have HF := Aside0.mk (And.intro fd fc)
  have hw0 : wrap64 s = s := by unfold wrap64; omega
  have hw1 : wrap64 (-s) = -s := by unfold wrap64; omega
  clear hRR hs hd hc fn fd fm fc
  rcases cmp_cases (n / d) (m / c) with ht | ht | ht
  ·rw [ht] at CM
   have HT := Aside0.mk ht
   clear ht
   go_wp2_with (first | (go_at_call 45; refine (D1 _ (hp.below HB)).mono ?_; clear D1; rintro e w2 ⟨rfl, hb2⟩; have hB2 := bZs HB hb2; have g0 := (hk1.below hb2).cell 0; have g01 := (hk1.below hb2).cell 1) | (go_at_call 45; refine (D2 _ (hp.below hB2)).mono ?_; clear D2; rintro e w3 ⟨rfl, hb3⟩; have hB3 := bZs hB2 hb3) | (go_at_call 46; refine (CM _).mono ?_; clear CM; rintro e w4 ⟨rfl, hb4⟩; have hB4 := bZs hB3 hb4))
   simp only [Exit.jump]
   go_ret
   refine ⟨Eq.trans (b := Ending.returned (.int .i64 s)) rfl (congrArg (fun z => Ending.returned (Value.int .i64 z)) ?_), hB4⟩
   have e1 := cf_ne HD.out.1 HD.out.2 (fun e => by have := HT.out; rw [e, cmp_self] at this; omega)
   rw [HT.out] at e1
   rw [← HRR.out, ← e1, Int.mul_one]
  ·rw [ht] at CM
   have HT := Aside0.mk ht
   clear ht
   go_wp2_with (first | (go_at_call 45; refine (D1 _ (hp.below HB)).mono ?_; clear D1; rintro e w2 ⟨rfl, hb2⟩; have hB2 := bZs HB hb2; have g0 := (hk1.below hb2).cell 0; have g01 := (hk1.below hb2).cell 1) | (go_at_call 45; refine (D2 _ (hp.below hB2)).mono ?_; clear D2; rintro e w3 ⟨rfl, hb3⟩; have hB3 := bZs hB2 hb3) | (go_at_call 46; refine (CM _).mono ?_; clear CM; rintro e w4 ⟨rfl, hb4⟩; have hB4 := bZs hB3 hb4))
   simp only [Exit.jump]
   go_ret
   refine ⟨Eq.trans (b := Ending.returned (.int .i64 (-s))) rfl (congrArg (fun z => Ending.returned (Value.int .i64 z)) ?_), hB4⟩
   have e1 := cf_ne HD.out.1 HD.out.2 (fun e => by have := HT.out; rw [e, cmp_self] at this; omega)
   rw [HT.out] at e1
   rw [← HRR.out, ← e1]
   omega
  ·have HT := Aside0.mk (cmp_zero ht)
   rw [ht] at CM
   clear ht
   by_cases hr : n % d = 0
   ·have HR := Aside0.mk hr
    rw [decide_eq_true hr] at z1
    clear hr
    by_cases hs' : m % c = 0
    ·have HS2 := Aside0.mk hs'
     rw [decide_eq_true hs'] at z2
     clear hs'
     go_wp2_with (first | (go_at_call 45; refine (D1 _ (hp.below HB)).mono ?_; clear D1; rintro e w2 ⟨rfl, hb2⟩; have hB2 := bZs HB hb2; have g0 := (hk1.below hb2).cell 0; have g01 := (hk1.below hb2).cell 1) | (go_at_call 45; refine (D2 _ (hp.below hB2)).mono ?_; clear D2; rintro e w3 ⟨rfl, hb3⟩; have hB3 := bZs hB2 hb3) | (go_at_call 46; refine (CM _).mono ?_; clear CM; rintro e w4 ⟨rfl, hb4⟩; have hB4 := bZs hB3 hb4))
     simp only [Exit.jump]
     go_ret
     refine ⟨Eq.trans (b := Ending.returned (.int .i64 0)) rfl (congrArg (fun z => Ending.returned (Value.int .i64 z)) ?_), hB4⟩
     rw [← HRR.out, cf_zz HT.out HR.out HS2.out, Int.mul_zero]
    ·have HS2 := Aside0.mk hs'
     rw [decide_eq_false hs'] at z2
     clear hs'
     go_wp2_with (first | (go_at_call 45; refine (D1 _ (hp.below HB)).mono ?_; clear D1; rintro e w2 ⟨rfl, hb2⟩; have hB2 := bZs HB hb2; have g0 := (hk1.below hb2).cell 0; have g01 := (hk1.below hb2).cell 1) | (go_at_call 45; refine (D2 _ (hp.below hB2)).mono ?_; clear D2; rintro e w3 ⟨rfl, hb3⟩; have hB3 := bZs hB2 hb3) | (go_at_call 46; refine (CM _).mono ?_; clear CM; rintro e w4 ⟨rfl, hb4⟩; have hB4 := bZs hB3 hb4))
     simp only [Exit.jump]
     go_ret
     refine ⟨Eq.trans (b := Ending.returned (.int .i64 (-s))) rfl (congrArg (fun z => Ending.returned (Value.int .i64 z)) ?_), hB4⟩
     rw [← HRR.out, cf_z1 HD.out.1 HD.out.2 HT.out HR.out HS2.out]
     omega
   ·have HR := Aside0.mk hr
    rw [decide_eq_false hr] at z1
    clear hr
    by_cases hs' : m % c = 0
    ·have HS2 := Aside0.mk hs'
     rw [decide_eq_true hs'] at z2
     clear hs'
     go_wp2_with (first | (go_at_call 45; refine (D1 _ (hp.below HB)).mono ?_; clear D1; rintro e w2 ⟨rfl, hb2⟩; have hB2 := bZs HB hb2; have g0 := (hk1.below hb2).cell 0; have g01 := (hk1.below hb2).cell 1) | (go_at_call 45; refine (D2 _ (hp.below hB2)).mono ?_; clear D2; rintro e w3 ⟨rfl, hb3⟩; have hB3 := bZs hB2 hb3) | (go_at_call 46; refine (CM _).mono ?_; clear CM; rintro e w4 ⟨rfl, hb4⟩; have hB4 := bZs hB3 hb4))
     simp only [Exit.jump]
     go_ret
     refine ⟨Eq.trans (b := Ending.returned (.int .i64 s)) rfl (congrArg (fun z => Ending.returned (Value.int .i64 z)) ?_), hB4⟩
     rw [← HRR.out, cf_1z HD.out.1 HD.out.2 HT.out HR.out HS2.out]
     omega
    ·have HS2 := Aside0.mk hs'
     rw [decide_eq_false hs'] at z2
     clear hs'
     go_wp2_with (first | (go_at_call 45; refine (D1 _ (hp.below HB)).mono ?_; clear D1; rintro e w2 ⟨rfl, hb2⟩; have hB2 := bZs HB hb2; have g0 := (hk1.below hb2).cell 0; have g01 := (hk1.below hb2).cell 1) | (go_at_call 45; refine (D2 _ (hp.below hB2)).mono ?_; clear D2; rintro e w3 ⟨rfl, hb3⟩; have hB3 := bZs hB2 hb3) | (go_at_call 46; refine (CM _).mono ?_; clear CM; rintro e w4 ⟨rfl, hb4⟩; have hB4 := bZs hB3 hb4))
     have k0 := ((hk0.below hb2).below hb3).below hb4
     have k1 := ((hk1.below hb2).below hb3).below hb4
     obtain ⟨q0, q1, q2, q3⟩ := k0.two
     obtain ⟨r0, r1, r2, r3⟩ := k1.two
     go_region
     go_wp2
     go_step3
     rw [hw1]
     have hBB := bZe (g := w.heap.size + 1) (j := 1) (v := .string (itx (m % c))) (bZe (g := w.heap.size + 1) (j := 0) (v := .string (itx c)) (bZe (g := w.heap.size) (j := 1) (v := .string (itx (n % d))) (bZe (g := w.heap.size) (j := 0) (v := .string (itx d)) hB4 (Nat.le_refl _)) (Nat.le_refl _)) (Nat.le_succ _)) (Nat.le_succ _)
     have kk0 := (((k0.set 0 (.string (itx d))).set 1 (.string (itx (n % d)))).far (p := ⟨w.heap.size + 1, 0, none⟩) (by simp) (.string (itx c))).far (p := ⟨w.heap.size + 1, 1, none⟩) (by simp) (.string (itx (m % c)))
     have kk1 := (((k1.far (p := ⟨w.heap.size, 0, none⟩) (by simp) (.string (itx d))).far (p := ⟨w.heap.size, 1, none⟩) (by simp) (.string (itx (n % d)))).set 0 (.string (itx c))).set 1 (.string (itx (m % c)))
     have hd0 := HD.out.1
     have hr0 : 0 < n % d := by have := Int.emod_nonneg n (show d ≠ 0 by omega); have := HR.out; omega
     have hs0 : 0 < m % c := by have := Int.emod_nonneg m (show c ≠ 0 by have := HD.out.2; omega); have := HS2.out; omega
     refine ⟨rfl, ⟨d, c, n % d, m % c, -s, _, _, _, _, _, _, _, _, _, _, _, _, _, _, _, _, _, _, _, _, _, _, _, _, _, _, _, _, _, _, _, _, _, _, _, _, _, _, _, _, _, _, _, _, _, _, _, _, _, _, _, _, _, _, _, _, _, _, _, _, _, _, _, _, _, _, _, _, _, _, _, rfl, bZd hBB, kk0.drew, kk1.drew, ⟨hr0, hs0, HF.out.1, fit_mod (by omega) HF.out.1, HF.out.2, fit_mod (by have := HD.out.2; omega) HF.out.2, by rcases HS.out with e | e <;> omega, ?_⟩⟩, ?_⟩
     ·rw [← HRR.out, cf_step HT.out, Int.neg_mul_comm]
     ·unfold cmpM
      rw [c01, show World.cell? _ ⟨w.heap.size, 1, none⟩ = _ from kk0.drew.cell 1]
      show rdNat (some (.string (itx (n % d)))) < rdNat (some (.string (itx d)))
      rw [rdNat_int (by omega), rdNat_int (by omega)]
      have := Int.emod_lt_of_pos n hd0
      omega
 case first =>
  have hB0 : Below w.heap.size w ((w.alloc (.cells #[.string (itx p.num), .string (itx (p.den : Int))] 25)).alloc (.cells #[.string (itx q.num), .string (itx (q.den : Int))] 25)) := bZa (bZa (Below.refl _ _) _) _
  have hk0 := (Blk.new w #[.string (itx p.num), .string (itx (p.den : Int))] 25).alloc (.cells #[.string (itx q.num), .string (itx (q.den : Int))] 25)
  have hk1 := Blk.new (w.alloc (.cells #[.string (itx p.num), .string (itx (p.den : Int))] 25)) #[.string (itx q.num), .string (itx (q.den : Int))] 25
  rw [World.size_alloc] at hk1
  go_wp2_with (first | (go_at_call 44; refine (V1 _ (hp.below hB0)).mono ?_; clear V1; rintro e w2 ⟨rfl, hb2⟩; have hB2 := bZs hB0 hb2; have g0 := (hk1.below hb2).cell 0; have g01 := (hk1.below hb2).cell 1) | (go_at_call 44; refine (V2 _ (hp.below hB2)).mono ?_; clear V2; rintro e w3 ⟨rfl, hb3⟩; have hB3 := bZs hB2 hb3))
  go_step3
  rename_i K hK
  refine hK _ _ (Code.wp_mono (fun e a2 W2 h => ?_) (key _ _ ⟨p.num, q.num, p.den, q.den, 1, _, _, _, _, _, _, _, _, _, _, _, _, _, _, _, _, _, _, _, _, _, _, _, _, _, _, _, _, _, _, _, _, _, _, _, _, _, _, _, _, _, _, _, _, _, _, _, _, _, _, _, _, _, _, _, _, _, _, _, _, _, _, _, _, _, _, _, _, _, _, _, rfl, hB3, (hk0.below hb2).below hb3, (hk1.below hb2).below hb3, HN0⟩))
  cases e with
  | goto l => exact ⟨h.1, h.2.1⟩
  | _ => exact h
end Go.Proofs.YtociicfjhgfgpaaGreatDoor

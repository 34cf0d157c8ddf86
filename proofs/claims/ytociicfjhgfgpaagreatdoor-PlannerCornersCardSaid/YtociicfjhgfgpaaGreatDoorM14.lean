/- integer: Add, Sub, Mul, Compare: the walks. -/
import Derived.Test.YtociicfjhgfgpaaGreatDoorM10
import Derived.Test.YtociicfjhgfgpaaGreatDoorM11
import Derived.Test.YtociicfjhgfgpaaGreatDoorM13
set_option linter.unusedVariables false
set_option linter.unusedSimpArgs false
namespace Go.Proofs.YtociicfjhgfgpaaGreatDoor
open Go.RowKit Go.Shelf Go.Lib Go.Proofs.YtociicfjhgfgpaaGreatDoorW.PrintWords
def outT (z : Int) : ByteArray := if fit z then itx z else ⟨#[]⟩
def outC (z : Int) : Int := if fit z then 0 else 30
theorem fit_dd {z : Int} : fit z ↔ (decDigits z.natAbs).length ≤ 200 := by
 rcases Nat.eq_zero_or_pos z.natAbs with h | h
 ·rw [h, dd_1 (by decide)]
  simp only [List.length_cons, List.length_nil]
  constructor
  ·intro _; omega
  ·intro _; unfold fit; rw [h]; exact Nat.pow_pos (by decide)
 ·have e := congrArg List.length (bs_dd z.natAbs h)
  simp only [asc, List.length_map, List.length_reverse] at e
  rw [← e]
  exact ⟨fit_len, len_fit⟩
theorem sgv_abs (n : Bool) (x : Nat) : (sgv n x).natAbs = x := by cases n <;> simp [sgv]
theorem sgv_flag (x : Int) : sgv (decide (x < 0)) x.natAbs = x := by
 unfold sgv
 by_cases h : x < 0
 ·rw [decide_eq_true h, if_pos rfl]; omega
 ·rw [decide_eq_false h, if_neg (by simp)]; omega
theorem sg_text (n : Bool) (u : Value) (x : Nat) (W : World) (hp : Pow W) (h : Rd W u (digs 10000 x)) (hl : (digs 10000 x).length ≤ 1000) :
  Calls Tryz.prog 115 #[.agg #[.bool n, u]] W fun e w' => e = .returned (.tuple #[.string (outT (sgv n x)), .int .i64 (outC (sgv n x))]) ∧ Below W.heap.size W w' := by
 have h1 := int_text n u x W hp h hl
 have e : (200 < (decDigits x).length) = ¬ fit (sgv n x) := propext (by rw [fit_dd, sgv_abs]; omega)
 refine h1.mono ?_
 rintro e' w' ⟨rfl, hb⟩
 refine ⟨?_, hb⟩
 unfold outT outC
 by_cases hf : fit (sgv n x)
 ·have hd : ¬ 200 < (decDigits x).length := by rw [e]; exact fun h => h hf
  rw [if_pos hf, if_pos hf, if_neg hd, if_neg hd]
  rfl
 ·have hd : 200 < (decDigits x).length := by rw [e]; exact hf
  rw [if_neg hf, if_neg hf, if_pos hd, if_pos hd]
theorem fit_big {x : Int} (h : fit x) : (digs 10000 x.natAbs).length ≤ 51 := by
 refine digs_len_le (by decide) (Nat.lt_trans h ?_)
 decide
theorem sum_len {a b z : Nat} (h1 : (digs 10000 a).length ≤ 51) (h2 : (digs 10000 b).length ≤ 51) (hz : z ≤ a + b) : (digs 10000 z).length ≤ 1000 := by
 have e1 : a < 10000 ^ 51 := Nat.lt_of_lt_of_le (digs_big (by decide) a) (Nat.pow_le_pow_right (by decide) h1)
 have e2 : b < 10000 ^ 51 := Nat.lt_of_lt_of_le (digs_big (by decide) b) (Nat.pow_le_pow_right (by decide) h2)
 exact Nat.le_trans (digs_len_le (k := 52) (by decide) (by rw [Nat.pow_succ]; omega)) (by decide)
theorem mul_len {a b : Nat} (h1 : (digs 10000 a).length ≤ 51) (h2 : (digs 10000 b).length ≤ 51) : (digs 10000 (a * b)).length ≤ 1000 := by
 have e1 : a < 10000 ^ 51 := Nat.lt_of_lt_of_le (digs_big (by decide) a) (Nat.pow_le_pow_right (by decide) h1)
 have e2 : b < 10000 ^ 51 := Nat.lt_of_lt_of_le (digs_big (by decide) b) (Nat.pow_le_pow_right (by decide) h2)
 refine Nat.le_trans (digs_len_le (k := 102) (by decide) ?_) (by decide)
 rw [show (10000 : Nat) ^ 102 = 10000 ^ 51 * 10000 ^ 51 by rw [← Nat.pow_add]]
 exact Nat.mul_lt_mul_of_lt_of_le e1 (Nat.le_of_lt e2) (Nat.pow_pos (by decide))
theorem sgv_neg (n : Bool) (x : Nat) : sgv (!n) x = - sgv n x := by cases n <;> simp [sgv]
theorem sgv_mul (m n : Bool) (x y : Nat) : sgv (m != n) (x * y) = sgv m x * sgv n y := by
 cases m <;> cases n <;> simp [sgv, Int.neg_mul, Int.mul_neg, Int.natCast_mul]
set_option maxHeartbeats 4000000 in
set_option maxRecDepth 100000 in
theorem int_Add (x y : Int) (w : World) (hp : Pow w) (h1 : fit x) (h2 : fit y) :
  Calls Tryz.prog 48 #[.string (itx x), .string (itx y)] w fun e w' => e = .returned (.tuple #[.string (outT (x + y)), .int .i64 (outC (x + y))]) ∧ Below w.heap.size w w' := by
 have V1 := fun W => int_both x y W h1 h2
 have l1 := fit_big h1
 have l2 := fit_big h2
 have hx := sgv_flag x
 have hy := sgv_flag y
 generalize itx x = s1 at *
 generalize itx y = s2 at *
 generalize decide (x < 0) = m at *
 generalize decide (y < 0) = n at *
 generalize x.natAbs = a at *
 generalize y.natAbs = b at *
 subst hx hy
 clear h1 h2
 go_enter Tryz.func48, Tryz.ntmps48
 go_wp2_with (first | (go_at_call 110; refine (V1 _).mono ?_; clear V1; rintro e w2 ⟨u, v, rfl, hu, hv, hb2⟩; have HU := Aside0.mk hu; have HV := Aside0.mk hv; obtain ⟨A, c, rfl, -, -⟩ := hu; obtain ⟨A2, c2, rfl, -, -⟩ := hv) | (go_at_call 121; refine (int_splus m n _ _ a b _ (HU.out.below (below_alloc (below_alloc (Below.refl _ _) _) _)) (HV.out.below (below_alloc (below_alloc (Below.refl _ _) _) _)) (by omega) (by omega)).mono ?_; rintro e w3 ⟨a3, k, z, rfl, hr3, hz3, hle, hb3⟩; have hB3 := below_step (below_alloc (below_alloc hb2 _) _) hb3) | (go_at_call 115; refine (sg_text k a3 z _ (hp.below hB3) hr3 (sum_len l1 l2 hle)).mono ?_; rintro e w4 ⟨rfl, hb4⟩))
 go_ret2
 exact ⟨by rw [← hz3]; rfl, below_step hB3 hb4⟩
set_option maxHeartbeats 4000000 in
set_option maxRecDepth 100000 in
theorem int_Sub (x y : Int) (w : World) (hp : Pow w) (h1 : fit x) (h2 : fit y) :
  Calls Tryz.prog 49 #[.string (itx x), .string (itx y)] w fun e w' => e = .returned (.tuple #[.string (outT (x - y)), .int .i64 (outC (x - y))]) ∧ Below w.heap.size w w' := by
 have V1 := fun W => int_both x y W h1 h2
 have l1 := fit_big h1
 have l2 := fit_big h2
 have hx := sgv_flag x
 have hy := sgv_flag y
 generalize itx x = s1 at *
 generalize itx y = s2 at *
 generalize decide (x < 0) = m at *
 generalize decide (y < 0) = n at *
 generalize x.natAbs = a at *
 generalize y.natAbs = b at *
 subst hx hy
 clear h1 h2
 go_enter Tryz.func49, Tryz.ntmps49
 go_wp2_with (first | (go_at_call 110; refine (V1 _).mono ?_; clear V1; rintro e w2 ⟨u, v, rfl, hu, hv, hb2⟩; have HU := Aside0.mk hu; have HV := Aside0.mk hv; obtain ⟨A, c, rfl, -, -⟩ := hu; obtain ⟨A2, c2, rfl, -, -⟩ := hv) | (go_at_call 121; refine (int_splus m (!n) _ _ a b _ (HU.out.below (below_alloc (below_alloc (Below.refl _ _) _) _)) (HV.out.below (below_alloc (below_alloc (Below.refl _ _) _) _)) (by omega) (by omega)).mono ?_; rintro e w3 ⟨a3, k, z, rfl, hr3, hz3, hle, hb3⟩; have hB3 := below_step (below_alloc (below_alloc hb2 _) _) hb3) | (go_at_call 115; refine (sg_text k a3 z _ (hp.below hB3) hr3 (sum_len l1 l2 hle)).mono ?_; rintro e w4 ⟨rfl, hb4⟩))
 go_ret2
 exact ⟨by rw [show sgv m a - sgv n b = sgv m a + sgv (!n) b by rw [sgv_neg]; omega, ← hz3]; rfl, below_step hB3 hb4⟩
set_option maxHeartbeats 4000000 in
set_option maxRecDepth 100000 in
theorem int_Compare (x y : Int) (w : World) (h1 : fit x) (h2 : fit y) :
  Calls Tryz.prog 46 #[.string (itx x), .string (itx y)] w fun e w' => e = .returned (.int .i64 (cmpI x y)) ∧ Below w.heap.size w w' := by
 have V1 := fun W => int_both x y W h1 h2
 have l1 := fit_big h1
 have l2 := fit_big h2
 obtain ⟨r, hr⟩ : ∃ r, cmpI x y = r := ⟨_, rfl⟩
 rw [hr]
 have HR := Aside0.mk hr
 have HN := Aside0.mk (show x.natAbs = x.natAbs ∧ y.natAbs = y.natAbs from ⟨rfl, rfl⟩)
 generalize itx x = s1 at *
 generalize itx y = s2 at *
 clear hr h1 h2
 by_cases hx : x < 0 <;> by_cases hy : y < 0 <;> simp only [hx, hy, decide_true, decide_false] at V1
 ·go_enter Tryz.func46, Tryz.ntmps46
  go_wp2_with (first | (go_at_call 110; refine (V1 _).mono ?_; clear V1; rintro e w2 ⟨u, v, rfl, hu, hv, hb2⟩; have HU := Aside0.mk hu; have HV := Aside0.mk hv; obtain ⟨A, c, rfl, -, -⟩ := hu; obtain ⟨A2, c2, rfl, -, -⟩ := hv) | (go_at_call 116; refine (int_compare _ _ y.natAbs x.natAbs _ (HV.out.below (below_alloc (below_alloc (Below.refl _ _) _) _)) (HU.out.below (below_alloc (below_alloc (Below.refl _ _) _) _)) (by omega) (by omega)).mono ?_; rintro e w3 ⟨rfl, hb3⟩))
  go_ret
  refine ⟨?_, below_step (below_alloc (below_alloc hb2 _) _) hb3⟩
  rw [← HR.out]
  refine congrArg (fun z => Ending.returned (Value.int .i64 z)) (?_ : cmpN y.natAbs x.natAbs = cmpI x y)
  unfold cmpN cmpI
  repeat' split
  all_goals omega
 ·go_enter Tryz.func46, Tryz.ntmps46
  go_wp2_with (first | (go_at_call 110; refine (V1 _).mono ?_; clear V1; rintro e w2 ⟨u, v, rfl, hu, hv, hb2⟩; have HU := Aside0.mk hu; have HV := Aside0.mk hv; obtain ⟨A, c, rfl, -, -⟩ := hu; obtain ⟨A2, c2, rfl, -, -⟩ := hv))
  go_ret
  refine ⟨?_, below_alloc (below_alloc hb2 _) _⟩
  rw [← HR.out]
  refine congrArg (fun z => Ending.returned (Value.int .i64 z)) (?_ : -1 = cmpI x y)
  unfold cmpI
  rw [if_pos (by omega)]
 ·go_enter Tryz.func46, Tryz.ntmps46
  go_wp2_with (first | (go_at_call 110; refine (V1 _).mono ?_; clear V1; rintro e w2 ⟨u, v, rfl, hu, hv, hb2⟩; have HU := Aside0.mk hu; have HV := Aside0.mk hv; obtain ⟨A, c, rfl, -, -⟩ := hu; obtain ⟨A2, c2, rfl, -, -⟩ := hv))
  go_ret
  refine ⟨?_, below_alloc (below_alloc hb2 _) _⟩
  rw [← HR.out]
  refine congrArg (fun z => Ending.returned (Value.int .i64 z)) (?_ : 1 = cmpI x y)
  unfold cmpI
  rw [if_neg (by omega), if_neg (by omega)]
 ·go_enter Tryz.func46, Tryz.ntmps46
  go_wp2_with (first | (go_at_call 110; refine (V1 _).mono ?_; clear V1; rintro e w2 ⟨u, v, rfl, hu, hv, hb2⟩; have HU := Aside0.mk hu; have HV := Aside0.mk hv; obtain ⟨A, c, rfl, -, -⟩ := hu; obtain ⟨A2, c2, rfl, -, -⟩ := hv) | (go_at_call 116; refine (int_compare _ _ x.natAbs y.natAbs _ (HU.out.below (below_alloc (below_alloc (Below.refl _ _) _) _)) (HV.out.below (below_alloc (below_alloc (Below.refl _ _) _) _)) (by omega) (by omega)).mono ?_; rintro e w3 ⟨rfl, hb3⟩))
  go_ret
  refine ⟨?_, below_step (below_alloc (below_alloc hb2 _) _) hb3⟩
  rw [← HR.out]
  refine congrArg (fun z => Ending.returned (Value.int .i64 z)) (?_ : cmpN x.natAbs y.natAbs = cmpI x y)
  unfold cmpN cmpI
  repeat' split
  all_goals omega
end Go.Proofs.YtociicfjhgfgpaaGreatDoor

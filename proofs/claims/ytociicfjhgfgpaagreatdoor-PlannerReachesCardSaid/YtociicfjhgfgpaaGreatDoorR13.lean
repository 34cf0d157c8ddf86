/- workpieceref03: Gcd, Div, FromInt: the walks. A region that draws its order, whose reads yield the same in every world of a class that the region's calls keep: the reads may be taken first. integer: Add, Sub, Mul, Compare: the walks. -/
import Derived.Test.YtociicfjhgfgpaaGreatDoorR12
import Derived.Deep.RegionWith
import Derived.Test.YtociicfjhgfgpaaGreatDoorR09
import Derived.Test.YtociicfjhgfgpaaGreatDoorR10
set_option linter.unusedVariables false
set_option linter.unusedSimpArgs false
set_option maxHeartbeats 4000000
set_option maxRecDepth 100000
namespace Go.Proofs.YtociicfjhgfgpaaGreatDoor
open Go.RowKit Go.Proofs.YtociicfjhgfgpaaGreatDoorW.PrintWords
theorem itx_nat' (a : Nat) : txt false a = itx (a : Int) := txt_sg false a
theorem len_of_lt {a : Nat} (h : a < 10 ^ 200) : (digs 10 a).length ≤ 200 := digs_len_le (by decide) h
theorem ref03_Gcd (x y : Int) (w : World) (h1 : fit x) (h2 : fit y) :
  Calls Tryz.prog 80 #[.string (itx x), .string (itx y)] w fun e w' => e = .returned (.tuple #[.string (itx (Nat.gcd x.natAbs y.natAbs : Nat)), .int .i64 0]) ∧ Below w.heap.size w w' := by
 have V1 := fun W => ref03_Valid_ok x W h1
 have V2 := fun W => ref03_Valid_ok y W h2
 have D1 := fun W => ref03_digits_b _ x W h1 rfl
 have D2 := fun W => ref03_digits_b _ y W h2 rfl
 obtain ⟨a0, ha0⟩ : ∃ a, x.natAbs = a := ⟨_, rfl⟩
 obtain ⟨b0, hb0⟩ : ∃ a, y.natAbs = a := ⟨_, rfl⟩
 unfold fit at h1 h2
 rw [ha0] at h1 D1 ⊢
 rw [hb0] at h2 D2 ⊢
 obtain ⟨G, hG⟩ : ∃ G, Nat.gcd a0 b0 = G := ⟨_, rfl⟩
 rw [hG]
 generalize itx x = s1 at *
 generalize itx y = s2 at *
 generalize decide (x < 0) = b1 at *
 generalize decide (y < 0) = b2 at *
 have F1 := Aside0.mk h1
 have F2 := Aside0.mk h2
 have FG := Aside0.mk hG
 clear h1 h2 hG ha0 hb0
 go_enter Tryz.func80, Tryz.ntmps80
 go_wp2_with (first | (go_at_call 78; refine (V1 _).mono ?_; clear V1; rintro e w1 ⟨rfl, rfl⟩) | (go_at_call 78; refine (V2 _).mono ?_; clear V2; rintro e w1 ⟨rfl, rfl⟩) | (go_at_call 141; refine (D1 _).mono ?_; clear D1; rintro e w2 ⟨v2, rfl, hv2, hb2⟩) | (go_at_call 141; refine (D2 _).mono ?_; clear D2; rintro e w3 ⟨v3, rfl, hv3, hb3⟩))
 go_loopg [7, 9] b0 (fun k v7 v9 w' => ∃ a : Nat, Rd w' v7 (digs 10 a) ∧ Rd w' v9 (digs 10 k) ∧ Aside0 (Nat.gcd a k = G ∧ a < 10 ^ 200 ∧ k < 10 ^ 200) ∧ Below w.heap.size w w')
 case atStart => exact ⟨a0, hv2.below hb3, hv3, ⟨FG.out, F1.out, F2.out⟩, bZs hb2 hb3⟩
 clear hv2 hv3
 obtain ⟨a, HA, HK, F, HB⟩ := hrel
 by_cases hk : gk = 0
 ·subst hk
  rw [digs_zero] at HK
  obtain ⟨A, c, rfl, -, -⟩ := HK
  have S := ref03_checked false u7 a wr HA (len_of_lt F.out.2.1)
  rw [itx_nat', show a = G by have := F.out.1; rwa [Nat.gcd_zero_right] at this] at S
  go_wp2_with (go_at_call 144; refine S.mono ?_; clear S; rintro e w4 ⟨rfl, hb4⟩)
  go_ret2
  exact ⟨rfl, bZs HB hb4⟩
 ·have hpos : 0 < (digs 10 gk).length := by
   rw [digs_pos (by decide) (by omega)]
   simp
  have HK2 := HK
  obtain ⟨A, c, rfl, -, -⟩ := HK
  have T := ref03_divided u7 (.slice A (digs 10 gk).length c) a gk wr HA HK2 (by have := len_of_lt F.out.2.1; omega) (by have := len_of_lt F.out.2.2; omega) (by omega)
  go_wp2_with (go_at_call 143; refine T.mono ?_; clear T; rintro e w4 ⟨q4, r4, rfl, hq4, hr4, hb4⟩)
  go_roundg (a % gk)
  case measure => exact Nat.mod_lt _ (by omega)
  case rel =>
   refine ⟨gk, HK2.below hb4, hr4, ⟨?_, F.out.2.2, ?_⟩, bZs HB hb4⟩
   ·rw [← F.out.1, Nat.gcd_comm a gk, Nat.gcd_rec gk a, Nat.gcd_comm]
   ·have := Nat.mod_lt a (show 0 < gk by omega)
    have := F.out.2.2
    omega
theorem ediv_unique {x y q r : Int} (h : x = y * q + r) (h0 : 0 ≤ r) (h1 : r < y.natAbs) : x / y = q ∧ x % y = r := by
 rcases Int.lt_or_gt_of_ne (show y ≠ 0 by rintro rfl; simp at h1; omega) with hy | hy
 ·have h2 : x / (-y) = -q ∧ x % (-y) = r := (Int.ediv_emod_unique (by omega)).2 ⟨by rw [h]; grind, h0, by omega⟩
  rw [Int.ediv_neg, Int.emod_neg] at h2
  exact ⟨by omega, h2.2⟩
 ·exact (Int.ediv_emod_unique hy).2 ⟨by rw [h]; omega, h0, by omega⟩
theorem div_keep {x y : Int} (hy : y ≠ 0) (h : ¬ x < 0 ∨ x.natAbs % y.natAbs = 0) : sg (decide (x < 0) != decide (y < 0)) (x.natAbs / y.natAbs) = x / y ∧ ((x.natAbs % y.natAbs : Nat) : Int) = x % y := by
 have h1 := sg_self x
 have h2 := sg_self y
 have h3 := Nat.div_add_mod x.natAbs y.natAbs
 have h4 := Nat.mod_lt x.natAbs (show 0 < y.natAbs by omega)
 have key : x = y * sg (decide (x < 0) != decide (y < 0)) (x.natAbs / y.natAbs) + ((x.natAbs % y.natAbs : Nat) : Int) := by
  have h5 : ((y.natAbs * (x.natAbs / y.natAbs) + x.natAbs % y.natAbs : Nat) : Int) = (x.natAbs : Int) := by rw [h3]
  rw [Int.natCast_add, Int.natCast_mul] at h5
  generalize x.natAbs / y.natAbs = q at *
  generalize x.natAbs % y.natAbs = r at *
  generalize x.natAbs = a at *
  generalize y.natAbs = b at *
  unfold sg at *
  by_cases hx : x < 0 <;> by_cases hy : y < 0 <;> simp [hx, hy] at h1 h2 h ⊢ <;> grind
 obtain ⟨h6, h7⟩ := ediv_unique key (by omega) (by omega)
 exact ⟨h6.symm, h7.symm⟩
theorem div_turn {x y : Int} (hy : y ≠ 0) (h : x < 0) (hr : x.natAbs % y.natAbs ≠ 0) : sg (decide (x < 0) != decide (y < 0)) (x.natAbs / y.natAbs + 1) = x / y ∧ ((y.natAbs - x.natAbs % y.natAbs : Nat) : Int) = x % y := by
 have h1 := sg_self x
 have h2 := sg_self y
 have h3 := Nat.div_add_mod x.natAbs y.natAbs
 have h4 := Nat.mod_lt x.natAbs (show 0 < y.natAbs by omega)
 have key : x = y * sg (decide (x < 0) != decide (y < 0)) (x.natAbs / y.natAbs + 1) + ((y.natAbs - x.natAbs % y.natAbs : Nat) : Int) := by
  have h5 : ((y.natAbs * (x.natAbs / y.natAbs) + x.natAbs % y.natAbs : Nat) : Int) = (x.natAbs : Int) := by rw [h3]
  rw [Int.natCast_add, Int.natCast_mul] at h5
  rw [Int.ofNat_sub (by omega)]
  generalize x.natAbs / y.natAbs = q at *
  generalize x.natAbs % y.natAbs = r at *
  generalize x.natAbs = a at *
  generalize y.natAbs = b at *
  unfold sg at *
  by_cases hy : y < 0 <;> simp [h, hy] at h1 h2 ⊢ <;> grind
 obtain ⟨h6, h7⟩ := ediv_unique key (by omega) (by omega)
 exact ⟨h6.symm, h7.symm⟩
theorem fit_div {x : Int} (y : Int) (h : fit x) : fit (x / y) := Nat.lt_of_le_of_lt (Int.natAbs_ediv_le_natAbs x y) h
theorem fit_mod {x y : Int} (hy : y ≠ 0) (h : fit y) : fit (x % y) := by
 have h1 := Int.emod_nonneg x hy
 have h2 := Int.emod_lt x hy
 unfold fit at *
 omega
theorem ref03_Div (x y : Int) (w : World) (h1 : fit x) (h2 : fit y) (hy : y ≠ 0) :
  Calls Tryz.prog 133 #[.string (itx x), .string (itx y)] w fun e w' => e = .returned (.tuple #[.string (itx (x / y)), .string (itx (x % y)), .int .i64 0]) ∧ Below w.heap.size w w' := by
 have V1 := fun W => ref03_Valid_ok x W h1
 have V2 := fun W => ref03_Valid_ok y W h2
 have D1 := fun W => ref03_digits_b _ x W h1 rfl
 have D2 := fun W => ref03_digits_b _ y W h2 rfl
 have hy0 : ((itx y).toList == [48]) = false := by
  have := itx_eq y 0
  rw [decide_eq_false hy, show (itx 0).toList = [48] by rw [ByteArray.toList_eq]; rfl] at this
  exact this
 have T := fun u v W hu hv => ref03_divided u v x.natAbs y.natAbs W hu hv (by have := fit_len h1; omega) (by have := fit_len h2; omega) (by omega)
 have hq := fit_len (fit_div y h1)
 have hr := fit_len (fit_mod (x := x) hy h2)
 have hly := fit_len h2
 have hlx := fit_len h1
 by_cases hk : ¬ x < 0 ∨ x.natAbs % y.natAbs = 0
 ·obtain ⟨e1, e2⟩ := div_keep hy hk
  rw [← e1, sg_abs] at hq
  rw [← e2, Int.natAbs_natCast] at hr
  have C := fun u W hu => ref03_checked (decide (x < 0) != decide (y < 0)) u (x.natAbs / y.natAbs) W hu hq
  have X := fun u W hu => ref03_text false u (x.natAbs % y.natAbs) W hu (by omega)
  rw [txt_sg, e1] at C
  rw [itx_nat', e2] at X
  have hgt : x < 0 → ¬ ((digs 10 (x.natAbs % y.natAbs)).length : Int) > 0 := by
   intro hx
   rcases hk with hk | hk
   ·exact absurd hx hk
   ·rw [hk, digs_zero]
    simp
  generalize itx x = s1 at *
  generalize itx y = s2 at *
  generalize itx (x / y) = sq at *
  generalize itx (x % y) = sr at *
  generalize x.natAbs % y.natAbs = r0 at *
  generalize x.natAbs / y.natAbs = q0 at *
  clear e1 e2 hk h1 h2 hy
  by_cases hx : x < 0
  ·have hgt' := hgt hx
   simp only [decide_eq_true hx] at D1 C
   clear hgt hx
   generalize decide (y < 0) = b2 at *
   cases b2 <;> (
    first | rw [show (true != false) = true from rfl] at C | rw [show (true != true) = false from rfl] at C | rw [show (false != false) = false from rfl] at C | rw [show (false != true) = true from rfl] at C
    go_enter Tryz.func133, Tryz.ntmps133
    go_wp2_with (first | (go_at_call 78; refine (V1 _).mono ?_; clear V1; rintro e w1 ⟨rfl, rfl⟩) | (go_at_call 78; refine (V2 _).mono ?_; clear V2; rintro e w1 ⟨rfl, rfl⟩) | (go_at_call 141; refine (D1 _).mono ?_; clear D1; rintro e w2 ⟨v2, rfl, hv2, hb2⟩) | (go_at_call 141; refine (D2 _).mono ?_; clear D2; rintro e w3 ⟨v3, rfl, hv3, hb3⟩) | (go_at_call 143; refine (T _ _ _ (hv2.below hb3) hv3).mono ?_; clear T; rintro e w4 ⟨q4, r4, rfl, hq4, hr4, hb4⟩; have HR4 := Aside0.mk hr4; obtain ⟨A4, c4, rfl, -, -⟩ := hr4) | (go_at_call 144; refine (C _ _ hq4).mono ?_; clear C; rintro e w5 ⟨rfl, hb5⟩) | (go_at_call 134; refine (X _ _ (HR4.out.below hb5)).mono ?_; clear X; rintro e w6 ⟨rfl, hb6⟩))
    go_ret3
    exact ⟨rfl, bZs (bZs (bZs (bZs hb2 hb3) hb4) hb5) hb6⟩)
  ·simp only [decide_eq_false hx] at D1 C
   clear hgt hx
   generalize decide (y < 0) = b2 at *
   cases b2 <;> (
    first | rw [show (true != false) = true from rfl] at C | rw [show (true != true) = false from rfl] at C | rw [show (false != false) = false from rfl] at C | rw [show (false != true) = true from rfl] at C
    go_enter Tryz.func133, Tryz.ntmps133
    go_wp2_with (first | (go_at_call 78; refine (V1 _).mono ?_; clear V1; rintro e w1 ⟨rfl, rfl⟩) | (go_at_call 78; refine (V2 _).mono ?_; clear V2; rintro e w1 ⟨rfl, rfl⟩) | (go_at_call 141; refine (D1 _).mono ?_; clear D1; rintro e w2 ⟨v2, rfl, hv2, hb2⟩) | (go_at_call 141; refine (D2 _).mono ?_; clear D2; rintro e w3 ⟨v3, rfl, hv3, hb3⟩) | (go_at_call 143; refine (T _ _ _ (hv2.below hb3) hv3).mono ?_; clear T; rintro e w4 ⟨q4, r4, rfl, hq4, hr4, hb4⟩; have HR4 := Aside0.mk hr4) | (go_at_call 144; refine (C _ _ hq4).mono ?_; clear C; rintro e w5 ⟨rfl, hb5⟩) | (go_at_call 134; refine (X _ _ (HR4.out.below hb5)).mono ?_; clear X; rintro e w6 ⟨rfl, hb6⟩))
    go_ret3
    exact ⟨rfl, bZs (bZs (bZs (bZs hb2 hb3) hb4) hb5) hb6⟩)
 ·have hx : x < 0 := Decidable.of_not_not fun h => hk (.inl h)
  have hr0 : x.natAbs % y.natAbs ≠ 0 := fun h => hk (.inr h)
  obtain ⟨e1, e2⟩ := div_turn hy hx hr0
  have hrlt := Nat.mod_lt x.natAbs (show 0 < y.natAbs by omega)
  rw [← e1, sg_abs] at hq
  rw [← e2, Int.natAbs_natCast] at hr
  have hlq0 : (digs 10 (x.natAbs / y.natAbs)).length ≤ 200 := by
   have h9 : x.natAbs / y.natAbs < 10 ^ 200 := Nat.lt_of_le_of_lt (Nat.div_le_self _ _) h1
   exact len_of_lt h9
  have C := fun u W hu => ref03_checked (decide (x < 0) != decide (y < 0)) u (x.natAbs / y.natAbs + 1) W hu hq
  have X := fun u W hu => ref03_text false u (y.natAbs - x.natAbs % y.natAbs) W hu (by omega)
  have P1 := fun u v W hu hv => ref03_plus u v (x.natAbs / y.natAbs) 1 W hu hv (by omega) (Nat.le_trans (digs_len_le (b := 10) (by decide) (show 1 < 10 ^ 1 by decide)) (by decide))
  have M1 := fun u v W hu hv => ref03_minus u v y.natAbs (x.natAbs % y.natAbs) W hu hv (by omega) (by omega)
  rw [txt_sg, e1] at C
  rw [itx_nat', e2] at X
  have hgt' : ((digs 10 (x.natAbs % y.natAbs)).length : Int) > 0 := by
   rw [digs_pos (by decide) (by omega)]
   simp
  generalize itx x = s1 at *
  generalize itx y = s2 at *
  generalize itx (x / y) = sq at *
  generalize itx (x % y) = sr at *
  generalize x.natAbs % y.natAbs = r0 at *
  generalize x.natAbs / y.natAbs = q0 at *
  simp only [decide_eq_true hx] at D1 C
  clear e1 e2 hk h1 h2 hy hx
  generalize decide (y < 0) = b2 at *
  have h11 : digs 10 1 = [1] := by rw [digs_pos (by decide) (by decide), show 1 / 10 = 0 from rfl, digs_zero]; rfl
  rw [h11] at P1
  clear h11
  cases b2 <;> (
   first | rw [show (true != false) = true from rfl] at C | rw [show (true != true) = false from rfl] at C
   go_enter Tryz.func133, Tryz.ntmps133
   go_wp2_with (first | (go_at_call 78; refine (V1 _).mono ?_; clear V1; rintro e w1 ⟨rfl, rfl⟩) | (go_at_call 78; refine (V2 _).mono ?_; clear V2; rintro e w1 ⟨rfl, rfl⟩) | (go_at_call 141; refine (D1 _).mono ?_; clear D1; rintro e w2 ⟨v2, rfl, hv2, hb2⟩) | (go_at_call 141; refine (D2 _).mono ?_; clear D2; rintro e w3 ⟨v3, rfl, hv3, hb3⟩) | (go_at_call 143; refine (T _ _ _ (hv2.below hb3) hv3).mono ?_; clear T; rintro e w4 ⟨q4, r4, rfl, hq4, hr4, hb4⟩; have HR4 := Aside0.mk hr4; have HV3 := Aside0.mk (hv3.below hb4); obtain ⟨A4, c4, rfl, -, -⟩ := hr4) | (go_at_call 188; refine (P1 _ _ _ (hq4.below (bZa (Below.refl _ _) _)) (own_lit1 _ _ 1 (Nat.le_refl _)).rd).mono ?_; clear P1; rintro e w5 ⟨v5, rfl, hv5, hb5⟩; have HB5 := bZs (bZa (Below.refl _ _) _) hb5) | (go_at_call 189; refine (M1 _ _ _ (HV3.out.below HB5) (HR4.out.below HB5)).mono ?_; clear M1; rintro e w6 ⟨v6, rfl, hv6, hb6, _⟩) | (go_at_call 144; refine (C _ _ (hv5.below hb6)).mono ?_; clear C; rintro e w7 ⟨rfl, hb7⟩) | (go_at_call 134; refine (X _ _ (hv6.below hb7)).mono ?_; clear X; rintro e w8 ⟨rfl, hb8⟩))
   go_ret3
   exact ⟨rfl, bZs (bZs (bZs (bZs (bZs (bZs hb2 hb3) hb4) HB5) hb6) hb7) hb8⟩)
end Go.Proofs.YtociicfjhgfgpaaGreatDoor
namespace Go.Proofs.YtociicfjhgfgpaaGreatDoor
open Go
variable {P : Program} {ops : Array Oper} {Q : Exit → Act → World → Prop} {md : Region.Mode} {C : World → Prop} {ex : Nat → Bool}
def wpAnyC (P : Program) (md : Region.Mode) (ops : Array Oper) (Q : Exit → Act → World → Prop) (C : World → Prop) (ex : Nat → Bool) : Nat → Array Bool → Act → World → Prop
 | 0, listed, a, w => Region.ready md ops listed = [] ∧ Q .normal a w
 | fuel + 1, listed, a, w =>
  (Region.ready md ops listed = [] → Q .normal a w) ∧
  ∀ i ∈ Region.ready md ops listed, wpOp P ops Q i (fun a' w' => (ex i = false → C w') ∧ wpAnyC P md ops Q C ex fuel (listed.setIfInBounds i true) a' w') a w
theorem wpAny_of_C : ∀ (fuel : Nat) (listed : Array Bool) (a : Act) (w : World), wpAnyC P md ops Q C ex fuel listed a w → wpAny P md ops Q fuel listed a w
 | 0, _, _, _, h => h
 | fuel + 1, _, _, _, h => ⟨h.1, fun i hi => wpOp_mono (fun a' w' h' => wpAny_of_C fuel _ a' w' h'.2) (h.2 i hi)⟩
theorem wp_region_C {id : Nat} {a : Act} {w : World} (ex : Nat → Bool) (C : World → Prop) (hm : P.follows .mixedOrders = true)
  (h : wpAnyC P .any ops Q C ex ops.size (Array.replicate ops.size false) a w.drew) : (Code.region id ops true).wp P Q a w :=
 wp_region_any hm (wpAny_of_C _ _ _ _ h)
def YieldsC (P : Program) (ops : Array Oper) (C : World → Prop) (o : Oper) (v : Value) (a : Act) : Prop :=
 (Region.wanted o (yielded ops a.tmps) = true ∧ ∀ w, C w → (execOp a.eval o).run P w = .ok (.value v) w) ∨
 (Region.wanted o (yielded ops a.tmps) = false ∧ v = undef)
theorem YieldsC.wpOp {i : Nat} {o : Oper} {v : Value} {a : Act} (hi : ops[i]? = some o) (hy : YieldsC P ops C o v a)
  {K : Act → World → Prop} {w : World} (hC : C w) (h : K (a.put o.dst v) w) : Go.wpOp P ops Q i K a w := by
 unfold Go.wpOp
 simp only [hi]
 rcases hy with ⟨hw, hv⟩ | ⟨hw, rfl⟩
 ·simp only [hw, if_true, Oper.wp, hv w hC, Oper.upon]; exact .inl h
 ·simp only [hw, Bool.false_eq_true, if_false]; exact h
theorem YieldsC.of_same {o : Oper} {v : Value} {a a' : Act} (hy : YieldsC P ops C o v a) (he : execOp a'.eval o = execOp a.eval o)
  (hw : Region.wanted o (yielded ops a'.tmps) = Region.wanted o (yielded ops a.tmps)) : YieldsC P ops C o v a' := by
 unfold YieldsC at *
 rw [he, hw]
 exact hy
theorem wpOp_putC {j : Nat} {oi oj : Oper} {v : Value} (hj : ops[j]? = some oj) (hap : oi.apart ops oj = true)
  (hsi : ∀ cs b, oi.op ≠ .select cs b) (hsj : ∀ cs b, oj.op ≠ .select cs b)
  (hQ : ∀ c a w, Q (.panic c) (a.put oi.dst v) w → Q (.panic c) a w) {K : Act → World → Prop} {a : Act} {w : World}
  (hy : YieldsC P ops C oi v a) (h : wpOp P ops Q j K (a.put oi.dst v) w) :
  wpOp P ops Q j (fun a' w' => YieldsC P ops C oi v a' ∧ K (a'.put oi.dst v) w') a w := by
 obtain ⟨h1, h2, h3⟩ := Oper.apart_spec hap
 have keep : ∀ (a : Act), YieldsC P ops C oi v a → ∀ u, YieldsC P ops C oi v (a.put oj.dst u) := fun a hy u =>
  hy.of_same (execOp_put oi hsi a oj.dst u h3) (wanted_put oi a oj.dst u h3)
 have keepD : ∀ d, YieldsC P ops C oi v { a with defers := d :: a.defers } := fun d => hy.of_same rfl rfl
 unfold wpOp at *
 simp only [hj] at *
 rw [wanted_put oj a oi.dst v h1] at h
 split
 ·rename_i hw
  simp only [hw, if_true] at h
  rcases h with h | ⟨hasks, hlets⟩
  case inr => exact .inr ⟨by unfold Oper.asks at *; rw [execOp_put oj hsj a oi.dst v h1] at hasks; exact hasks, hlets⟩
  refine .inl ?_
  unfold Oper.wp at *
  rw [execOp_put oj hsj a oi.dst v h1] at h
  generalize (execOp a.eval oj).run P w = r at *
  cases r with
  | ok n w' =>
   cases n <;> simp only [Oper.upon] at h ⊢
   case value u => exact ⟨keep a hy u, by rw [← Act.put_comm a v u h2]; exact h⟩
   case skip => exact ⟨keep a hy _, by rw [← Act.put_comm a v undef h2]; exact h⟩
   case defer d =>
    refine ⟨keep _ (keepD d) _, ?_⟩
    rw [← Act.put_comm _ v undef h2, ← Act.put_defers]
    exact h
   case enter f args =>
    refine Calls.mono h fun e w'' he => ?_
    cases e with
    | returned u => exact ⟨keep a hy u, by rw [← Act.put_comm a v u h2]; exact he⟩
    | panicked c => exact hQ _ _ _ he
    | outgrown => exact he
   case row row args => exact Rows.mono h fun u w'' he => ⟨keep a hy u, by rw [← Act.put_comm a v u h2]; exact he⟩
  | halt x w' =>
   cases x <;> simp only [Oper.upon] at h ⊢
   case panic u => exact hQ _ _ _ h
 ·rename_i hw
  simp only [hw] at h
  exact ⟨keep a hy _, by rw [← Act.put_comm a v undef h2]; exact h⟩
theorem wpAnyC_first {i : Nat} {oi : Oper} {v : Value} (hi : ops[i]? = some oi) (hsel : ∀ (j : Nat) (o : Oper) cs b, ops[j]? = some o → o.op ≠ .select cs b)
  (hex : ∀ j oj, ops[j]? = some oj → ex j = true → ∃ e ∈ oj.after, Region.binds md e = true ∧ e.on = i)
  (hQ : ∀ c a w, Q (.panic c) (a.put oi.dst v) w → Q (.panic c) a w) (hxi : ex i = false) :
  ∀ (fuel : Nat) (listed : Array Bool) (a : Act) (w : World), C w →
   (∀ j oj, ops[j]? = some oj → j ≠ i → listed.getD j true = false → (∀ e ∈ oj.after, Region.binds md e = true → e.on ≠ i) → oi.apart ops oj = true) →
   i ∈ Region.ready md ops listed → YieldsC P ops C oi v a →
   wpAnyC P md ops Q C ex fuel (listed.setIfInBounds i true) (a.put oi.dst v) w → wpAnyC P md ops Q C ex (fuel + 1) listed a w := by
 intro fuel
 induction fuel with
 | zero =>
  intro listed a w hC _ hr hy H
  refine ⟨fun h => (by rw [h] at hr; cases hr), fun j hj => ?_⟩
  by_cases hji : j = i
  ·subst hji; exact hy.wpOp hi hC ⟨fun _ => hC, H⟩
  ·have := ready_mono hj hji
   rw [H.1] at this
   cases this
 | succ fuel ih =>
  intro listed a w hC hfree hr hy H
  refine ⟨fun h => (by rw [h] at hr; cases hr), fun j hj => ?_⟩
  by_cases hji : j = i
  ·subst hji; exact hy.wpOp hi hC ⟨fun _ => hC, H⟩
  ·have h1 := H.2 j (ready_mono hj hji)
   obtain ⟨hjun, oj, hoj, hall⟩ := mem_ready.1 hj
   have hnot : ∀ e ∈ oj.after, Region.binds md e = true → e.on ≠ i := fun e he hb heq => by
    have h1 := hall e he hb
    have h0 := (mem_ready.1 hr).1
    rw [heq] at h1
    rcases Nat.lt_or_ge i listed.size with h' | h'
    ·simp [h'] at h0 h1; rw [h0] at h1; cases h1
    ·simp [Array.getElem?_eq_none h'] at h1
   have hxj : ex j = false := by
    cases hx : ex j with
    | false => rfl
    | true =>
     obtain ⟨e, he, hb, heq⟩ := hex j oj hoj hx
     exact absurd heq (hnot e he hb)
   have h2 := wpOp_putC hoj (hfree j oj hoj hji hjun hnot) (fun cs b => hsel i oi cs b hi) (fun cs b => hsel j oj cs b hoj) hQ hy h1
   have hfree' : ∀ k ok, ops[k]? = some ok → k ≠ i → (listed.setIfInBounds j true).getD k true = false →
     (∀ e ∈ ok.after, Region.binds md e = true → e.on ≠ i) → oi.apart ops ok = true := fun k ok hk hki hun hno => by
    refine hfree k ok hk hki ?_ hno
    by_cases hjk : j = k
    ·subst hjk; exact hjun
    ·rw [getD_set_ne true hjk] at hun; exact hun
   refine wpOp_mono (fun a' w' h3 => ⟨h3.2.1, ih (listed.setIfInBounds j true) a' w' (h3.2.1 hxj) hfree' (ready_mono hr (Ne.symm hji)) h3.1 ?_⟩) h2
   rw [Array.setIfInBounds_comm _ _ hji]
   exact h3.2.2
def lateOn (md : Region.Mode) (ops : Array Oper) (ex : Nat → Bool) (i : Nat) : Bool := !ex i && (List.range ops.size).all fun j => !ex j || match ops[j]? with
 | some oj => oj.after.any fun e => Region.binds md e && e.on == i
 | none => true
theorem lateOn_spec {i : Nat} (h : lateOn md ops ex i = true) : ex i = false ∧ ∀ j oj, ops[j]? = some oj → ex j = true → ∃ e ∈ oj.after, Region.binds md e = true ∧ e.on = i := by
 unfold lateOn at h
 rw [Bool.and_eq_true] at h
 refine ⟨by simpa using h.1, fun j oj hj hx => ?_⟩
 have h1 := List.all_eq_true.1 h.2 j (List.mem_range.2 (Array.getElem?_eq_some_iff.1 hj).1)
 rw [hx, hj] at h1
 simp only [Bool.not_true, Bool.false_or] at h1
 obtain ⟨e, he, hb⟩ := Array.any_eq_true'.1 h1
 simp only [Bool.and_eq_true, beq_iff_eq] at hb
 exact ⟨e, he, hb.1, hb.2⟩
theorem wZt {i : Nat} {oi : Oper} {fuel : Nat} {listed : Array Bool} {a : Act} {w : World} (hi : ops[i]? = some oi)
  (hs : Region.noSelect ops = true) (hf : Region.free md ops listed i = true) (hr : (Region.ready md ops listed).contains i = true) (hl : lateOn md ops ex i = true)
  (hQ : ∀ v c a w, Q (.panic c) (a.put oi.dst v) w → Q (.panic c) a w) (hC : C w) (hw : Region.wanted oi (yielded ops a.tmps) = true)
  (h : ∃ v, (∀ w, C w → (execOp a.eval oi).run P w = .ok (.value v) w) ∧ wpAnyC P md ops Q C ex fuel (listed.setIfInBounds i true) (a.put oi.dst v) w) : wpAnyC P md ops Q C ex (fuel + 1) listed a w := by
 obtain ⟨v, hy, h⟩ := h
 exact wpAnyC_first hi (Region.noSelect_spec hs) (lateOn_spec hl).2 (hQ v) (lateOn_spec hl).1 fuel listed a w hC (Region.free_spec hi hf) (by simpa using hr) (.inl ⟨hw, hy⟩) h
theorem wZs {i : Nat} {o : Oper} {fuel : Nat} {listed : Array Bool} {a : Act} {w : World} (hr : Region.ready md ops listed = [i]) (ho : ops[i]? = some o)
  (h : ∀ K : Act → World → Prop, (∀ a' w', (ex i = false → C w') → wpAnyC P md ops Q C ex fuel (listed.setIfInBounds i true) a' w' → K a' w') → if Region.wanted o (yielded ops a.tmps) = true then Oper.wp P o a w K Q else K (a.put o.dst undef) w) : wpAnyC P md ops Q C ex (fuel + 1) listed a w := by
 refine ⟨fun h0 => (by rw [hr] at h0; cases h0), fun j hj => ?_⟩
 rw [hr] at hj
 obtain rfl : j = i := by simpa using hj
 have h1 := h (fun a' w' => (ex j = false → C w') ∧ wpAnyC P md ops Q C ex fuel (listed.setIfInBounds j true) a' w') (fun a' w' h1 h2 => ⟨h1, h2⟩)
 unfold wpOp
 rw [ho]
 simp only
 by_cases hw : Region.wanted o (yielded ops a.tmps) = true
 ·rw [if_pos hw] at h1 ⊢
  exact .inl h1
 ·rw [if_neg hw] at h1 ⊢
  exact h1
theorem wpAnyC_done {listed : Array Bool} {a : Act} {w : World} (hr : Region.ready md ops listed = []) (h : Q .normal a w) : ∀ fuel, wpAnyC P md ops Q C ex fuel listed a w
 | 0 => ⟨hr, h⟩
 | _ + 1 => ⟨fun _ => h, by rw [hr]; simp⟩
end Go.Proofs.YtociicfjhgfgpaaGreatDoor
namespace Go.Proofs.YtociicfjhgfgpaaGreatDoor
open Go.RowKit Go.Shelf Go.Lib Go.Proofs.YtociicfjhgfgpaaGreatDoorW.PrintWords
def outT (z : Int) : ByteArray := if fit z then itx z else ⟨#[]⟩
def outC (z : Int) : Int := if fit z then 0 else 30
theorem fit_dd {z : Int} : fit z ↔ (decDigits z.natAbs).length ≤ 200 := by
 rcases Nat.eq_zero_or_pos z.natAbs with h | h
 ·rw [h, dd_1 (by decide)]
  simp only [List.length_cons, List.length_nil]
  constructor
  ·intro _; omega
  ·intro _; unfold fit; rw [h]; exact Nat.pow_pos (by decide)
 ·have e := congrArg List.length (bs_dd z.natAbs h)
  simp only [asc, List.length_map, List.length_reverse] at e
  rw [← e]
  exact ⟨fit_len, len_fit⟩
theorem sgv_abs (n : Bool) (x : Nat) : (sgv n x).natAbs = x := by cases n <;> simp [sgv]
theorem sgv_flag (x : Int) : sgv (decide (x < 0)) x.natAbs = x := by
 unfold sgv
 by_cases h : x < 0
 ·rw [decide_eq_true h, if_pos rfl]; omega
 ·rw [decide_eq_false h, if_neg (by simp)]; omega
theorem sg_text (n : Bool) (u : Value) (x : Nat) (W : World) (hp : Pow W) (h : Rd W u (digs 10000 x)) (hl : (digs 10000 x).length ≤ 1000) :
  Calls Tryz.prog 115 #[.agg #[.bool n, u]] W fun e w' => e = .returned (.tuple #[.string (outT (sgv n x)), .int .i64 (outC (sgv n x))]) ∧ Below W.heap.size W w' := by
 have h1 := int_text n u x W hp h hl
 have e : (200 < (decDigits x).length) = ¬ fit (sgv n x) := propext (by rw [fit_dd, sgv_abs]; omega)
 refine h1.mono ?_
 rintro e' w' ⟨rfl, hb⟩
 refine ⟨?_, hb⟩
 unfold outT outC
 by_cases hf : fit (sgv n x)
 ·have hd : ¬ 200 < (decDigits x).length := by rw [e]; exact fun h => h hf
  rw [if_pos hf, if_pos hf, if_neg hd, if_neg hd]
  rfl
 ·have hd : 200 < (decDigits x).length := by rw [e]; exact hf
  rw [if_neg hf, if_neg hf, if_pos hd, if_pos hd]
theorem fit_big {x : Int} (h : fit x) : (digs 10000 x.natAbs).length ≤ 51 := by
 refine digs_len_le (by decide) (Nat.lt_trans h ?_)
 decide
theorem sum_len {a b z : Nat} (h1 : (digs 10000 a).length ≤ 51) (h2 : (digs 10000 b).length ≤ 51) (hz : z ≤ a + b) : (digs 10000 z).length ≤ 1000 := by
 have e1 : a < 10000 ^ 51 := Nat.lt_of_lt_of_le (digs_big (by decide) a) (Nat.pow_le_pow_right (by decide) h1)
 have e2 : b < 10000 ^ 51 := Nat.lt_of_lt_of_le (digs_big (by decide) b) (Nat.pow_le_pow_right (by decide) h2)
 exact Nat.le_trans (digs_len_le (k := 52) (by decide) (by rw [Nat.pow_succ]; omega)) (by decide)
theorem mul_len {a b : Nat} (h1 : (digs 10000 a).length ≤ 51) (h2 : (digs 10000 b).length ≤ 51) : (digs 10000 (a * b)).length ≤ 1000 := by
 have e1 : a < 10000 ^ 51 := Nat.lt_of_lt_of_le (digs_big (by decide) a) (Nat.pow_le_pow_right (by decide) h1)
 have e2 : b < 10000 ^ 51 := Nat.lt_of_lt_of_le (digs_big (by decide) b) (Nat.pow_le_pow_right (by decide) h2)
 refine Nat.le_trans (digs_len_le (k := 102) (by decide) ?_) (by decide)
 rw [show (10000 : Nat) ^ 102 = 10000 ^ 51 * 10000 ^ 51 by rw [← Nat.pow_add]]
 exact Nat.mul_lt_mul_of_lt_of_le e1 (Nat.le_of_lt e2) (Nat.pow_pos (by decide))
theorem sgv_neg (n : Bool) (x : Nat) : sgv (!n) x = - sgv n x := by cases n <;> simp [sgv]
theorem sgv_mul (m n : Bool) (x y : Nat) : sgv (m != n) (x * y) = sgv m x * sgv n y := by
 cases m <;> cases n <;> simp [sgv, Int.neg_mul, Int.mul_neg, Int.natCast_mul]
theorem int_Add (x y : Int) (w : World) (hp : Pow w) (h1 : fit x) (h2 : fit y) :
  Calls Tryz.prog 48 #[.string (itx x), .string (itx y)] w fun e w' => e = .returned (.tuple #[.string (outT (x + y)), .int .i64 (outC (x + y))]) ∧ Below w.heap.size w w' := by
 have V1 := fun W => int_both x y W h1 h2
 have l1 := fit_big h1
 have l2 := fit_big h2
 have hx := sgv_flag x
 have hy := sgv_flag y
 generalize itx x = s1 at *
 generalize itx y = s2 at *
 generalize decide (x < 0) = m at *
 generalize decide (y < 0) = n at *
 generalize x.natAbs = a at *
 generalize y.natAbs = b at *
 subst hx hy
 clear h1 h2
 go_enter Tryz.func48, Tryz.ntmps48
 go_wp2_with (first | (go_at_call 110; refine (V1 _).mono ?_; clear V1; rintro e w2 ⟨u, v, rfl, hu, hv, hb2⟩; have HU := Aside0.mk hu; have HV := Aside0.mk hv; obtain ⟨A, c, rfl, -, -⟩ := hu; obtain ⟨A2, c2, rfl, -, -⟩ := hv) | (go_at_call 121; refine (int_splus m n _ _ a b _ (HU.out.below (bZa (bZa (Below.refl _ _) _) _)) (HV.out.below (bZa (bZa (Below.refl _ _) _) _)) (by omega) (by omega)).mono ?_; rintro e w3 ⟨a3, k, z, rfl, hr3, hz3, hle, hb3⟩; have hB3 := bZs (bZa (bZa hb2 _) _) hb3) | (go_at_call 115; refine (sg_text k a3 z _ (hp.below hB3) hr3 (sum_len l1 l2 hle)).mono ?_; rintro e w4 ⟨rfl, hb4⟩))
 go_ret2
 exact ⟨by rw [← hz3]; rfl, bZs hB3 hb4⟩
theorem int_Sub (x y : Int) (w : World) (hp : Pow w) (h1 : fit x) (h2 : fit y) :
  Calls Tryz.prog 49 #[.string (itx x), .string (itx y)] w fun e w' => e = .returned (.tuple #[.string (outT (x - y)), .int .i64 (outC (x - y))]) ∧ Below w.heap.size w w' := by
 have V1 := fun W => int_both x y W h1 h2
 have l1 := fit_big h1
 have l2 := fit_big h2
 have hx := sgv_flag x
 have hy := sgv_flag y
 generalize itx x = s1 at *
 generalize itx y = s2 at *
 generalize decide (x < 0) = m at *
 generalize decide (y < 0) = n at *
 generalize x.natAbs = a at *
 generalize y.natAbs = b at *
 subst hx hy
 clear h1 h2
 go_enter Tryz.func49, Tryz.ntmps49
 go_wp2_with (first | (go_at_call 110; refine (V1 _).mono ?_; clear V1; rintro e w2 ⟨u, v, rfl, hu, hv, hb2⟩; have HU := Aside0.mk hu; have HV := Aside0.mk hv; obtain ⟨A, c, rfl, -, -⟩ := hu; obtain ⟨A2, c2, rfl, -, -⟩ := hv) | (go_at_call 121; refine (int_splus m (!n) _ _ a b _ (HU.out.below (bZa (bZa (Below.refl _ _) _) _)) (HV.out.below (bZa (bZa (Below.refl _ _) _) _)) (by omega) (by omega)).mono ?_; rintro e w3 ⟨a3, k, z, rfl, hr3, hz3, hle, hb3⟩; have hB3 := bZs (bZa (bZa hb2 _) _) hb3) | (go_at_call 115; refine (sg_text k a3 z _ (hp.below hB3) hr3 (sum_len l1 l2 hle)).mono ?_; rintro e w4 ⟨rfl, hb4⟩))
 go_ret2
 exact ⟨by rw [show sgv m a - sgv n b = sgv m a + sgv (!n) b by rw [sgv_neg]; omega, ← hz3]; rfl, bZs hB3 hb4⟩
theorem int_Compare (x y : Int) (w : World) (h1 : fit x) (h2 : fit y) :
  Calls Tryz.prog 46 #[.string (itx x), .string (itx y)] w fun e w' => e = .returned (.int .i64 (cmpI x y)) ∧ Below w.heap.size w w' := by
 have V1 := fun W => int_both x y W h1 h2
 have l1 := fit_big h1
 have l2 := fit_big h2
 obtain ⟨r, hr⟩ : ∃ r, cmpI x y = r := ⟨_, rfl⟩
 rw [hr]
 have HR := Aside0.mk hr
 have HN := Aside0.mk (show x.natAbs = x.natAbs ∧ y.natAbs = y.natAbs from ⟨rfl, rfl⟩)
 generalize itx x = s1 at *
 generalize itx y = s2 at *
 clear hr h1 h2
 by_cases hx : x < 0 <;> by_cases hy : y < 0 <;> simp only [hx, hy, decide_true, decide_false] at V1
 ·go_enter Tryz.func46, Tryz.ntmps46
  go_wp2_with (first | (go_at_call 110; refine (V1 _).mono ?_; clear V1; rintro e w2 ⟨u, v, rfl, hu, hv, hb2⟩; have HU := Aside0.mk hu; have HV := Aside0.mk hv; obtain ⟨A, c, rfl, -, -⟩ := hu; obtain ⟨A2, c2, rfl, -, -⟩ := hv) | (go_at_call 116; refine (int_compare _ _ y.natAbs x.natAbs _ (HV.out.below (bZa (bZa (Below.refl _ _) _) _)) (HU.out.below (bZa (bZa (Below.refl _ _) _) _)) (by omega) (by omega)).mono ?_; rintro e w3 ⟨rfl, hb3⟩))
  go_ret
  refine ⟨?_, bZs (bZa (bZa hb2 _) _) hb3⟩
  rw [← HR.out]
  refine congrArg (fun z => Ending.returned (Value.int .i64 z)) (?_ : cmpN y.natAbs x.natAbs = cmpI x y)
  unfold cmpN cmpI
  repeat' split
  all_goals omega
 ·go_enter Tryz.func46, Tryz.ntmps46
  go_wp2_with (first | (go_at_call 110; refine (V1 _).mono ?_; clear V1; rintro e w2 ⟨u, v, rfl, hu, hv, hb2⟩; have HU := Aside0.mk hu; have HV := Aside0.mk hv; obtain ⟨A, c, rfl, -, -⟩ := hu; obtain ⟨A2, c2, rfl, -, -⟩ := hv))
  go_ret
  refine ⟨?_, bZa (bZa hb2 _) _⟩
  rw [← HR.out]
  refine congrArg (fun z => Ending.returned (Value.int .i64 z)) (?_ : -1 = cmpI x y)
  unfold cmpI
  rw [if_pos (by omega)]
 ·go_enter Tryz.func46, Tryz.ntmps46
  go_wp2_with (first | (go_at_call 110; refine (V1 _).mono ?_; clear V1; rintro e w2 ⟨u, v, rfl, hu, hv, hb2⟩; have HU := Aside0.mk hu; have HV := Aside0.mk hv; obtain ⟨A, c, rfl, -, -⟩ := hu; obtain ⟨A2, c2, rfl, -, -⟩ := hv))
  go_ret
  refine ⟨?_, bZa (bZa hb2 _) _⟩
  rw [← HR.out]
  refine congrArg (fun z => Ending.returned (Value.int .i64 z)) (?_ : 1 = cmpI x y)
  unfold cmpI
  rw [if_neg (by omega), if_neg (by omega)]
 ·go_enter Tryz.func46, Tryz.ntmps46
  go_wp2_with (first | (go_at_call 110; refine (V1 _).mono ?_; clear V1; rintro e w2 ⟨u, v, rfl, hu, hv, hb2⟩; have HU := Aside0.mk hu; have HV := Aside0.mk hv; obtain ⟨A, c, rfl, -, -⟩ := hu; obtain ⟨A2, c2, rfl, -, -⟩ := hv) | (go_at_call 116; refine (int_compare _ _ x.natAbs y.natAbs _ (HU.out.below (bZa (bZa (Below.refl _ _) _) _)) (HV.out.below (bZa (bZa (Below.refl _ _) _) _)) (by omega) (by omega)).mono ?_; rintro e w3 ⟨rfl, hb3⟩))
  go_ret
  refine ⟨?_, bZs (bZa (bZa hb2 _) _) hb3⟩
  rw [← HR.out]
  refine congrArg (fun z => Ending.returned (Value.int .i64 z)) (?_ : cmpN x.natAbs y.natAbs = cmpI x y)
  unfold cmpN cmpI
  repeat' split
  all_goals omega
end Go.Proofs.YtociicfjhgfgpaaGreatDoor

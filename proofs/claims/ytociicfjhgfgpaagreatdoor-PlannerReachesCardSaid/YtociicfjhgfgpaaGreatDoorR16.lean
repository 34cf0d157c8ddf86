/- integer: Div: the walk, the turned ways. integer: Gcd: the walk. integer: Mul: the walk. -/
import Derived.Test.YtociicfjhgfgpaaGreatDoorR15
import Derived.Deep.QuietTactic
import Derived.Test.YtociicfjhgfgpaaGreatDoorR13
set_option linter.unusedVariables false
set_option linter.unusedSimpArgs false
set_option maxHeartbeats 4000000
set_option maxRecDepth 100000
namespace Go.Proofs.YtociicfjhgfgpaaGreatDoor
open Go.RowKit Go.Shelf Go.Lib Go.Proofs.YtociicfjhgfgpaaGreatDoorW.PrintWords
theorem div_tf (a b : Nat) (s1 s2 : ByteArray) (z r : Int) (w : World) (hp : Pow w) (l1 : (digs 10000 a).length ≤ 51) (l2 : (digs 10000 b).length ≤ 51) (hb0 : 0 < b) (hr0 : a % b ≠ 0) (hz : sgv true (a / b + 1) = z) (hr : sgv false (b - a % b) = r) (fz : fit z) (fr : fit r)
  (V1 : ∀ W, Calls Tryz.prog 110 #[.string s1, .string s2] W fun e w' => ∃ u v, e = .returned (.tuple #[.agg #[.bool true, u], .agg #[.bool false, v], .bool true]) ∧ Rd w' u (digs 10000 a) ∧ Rd w' v (digs 10000 b) ∧ Below W.heap.size W w') :
  Calls Tryz.prog 45 #[.string s1, .string s2] w fun e w' => e = .returned (.tuple #[.string (itx z), .string (itx r), .int .i64 0]) ∧ Below w.heap.size w w' := by
 have hlb : ((digs 10000 b).length == 0) = false := by
  have : 0 < (digs 10000 b).length := by rw [digs_pos (by decide) hb0]; simp
  simp; intro e; rw [e] at this; simp at this
 have OV := fun u v W h h' => int_over u v a b W h h' (by omega) (by omega) hb0
 have hrl : ((digs 10000 (a % b)).length : Int) > 0 := by
  have : 0 < (digs 10000 (a % b)).length := by rw [digs_pos (by decide) (Nat.pos_of_ne_zero hr0)]; simp
  omega
 have hml : a % b < b := Nat.mod_lt _ hb0
 have hqa := Nat.div_le_self a b
 have PL := fun v1 v W h h' => int_plus v v1 (a / b) 1 W h h' (by have := digs_len_le (b := 10000) (by decide) (Nat.lt_of_le_of_lt hqa (digs_big (b := 10000) (by decide) a)); omega) (by rw [digs_pos (by decide) (by decide), digs_zero]; simp)
 have MI := fun A2 c2 A4 c4 W h h' => int_minus (.slice A2 (digs 10000 b).length c2) (.slice A4 (digs 10000 (a % b)).length c4) b (a % b) W h h' (by omega) (Nat.le_of_lt hml)
 have T1 := fun u W hp h => sgt_ok true u (a / b + 1) z W hz fz hp h
 have T2 := fun u W hp h => sgt_ok false u (b - a % b) r W hr fr hp h
 generalize itx z = oz at *
 generalize itx r = or' at *
 clear hz hr fz fr
 go_enter Tryz.func45, Tryz.ntmps45
 go_wp2_with (first | (go_at_call 110; refine (V1 _).mono ?_; clear V1; rintro e w2 ⟨u, v, rfl, hu, hv, hb2⟩; have HU := Aside0.mk hu; have HV := Aside0.mk hv; obtain ⟨A, c, rfl, -, -⟩ := hu; obtain ⟨A2, c2, rfl, -, -⟩ := hv; obtain ⟨WB, hWB⟩ : ∃ WB, (w2.alloc (.cells #[.bool true, .slice A (digs 10000 a).length c] 168)).alloc (.cells #[.bool false, .slice A2 (digs 10000 b).length c2] 168) = WB := ⟨_, rfl⟩; have hB := bZa (bZa hb2 (.cells #[.bool true, .slice A (digs 10000 a).length c] 168)) (.cells #[.bool false, .slice A2 (digs 10000 b).length c2] 168); have RU := HU.out.below (bZa (bZa (Below.refl w2.heap.size w2) (.cells #[.bool true, .slice A (digs 10000 a).length c] 168)) (.cells #[.bool false, .slice A2 (digs 10000 b).length c2] 168)); have RV := HV.out.below (bZa (bZa (Below.refl w2.heap.size w2) (.cells #[.bool true, .slice A (digs 10000 a).length c] 168)) (.cells #[.bool false, .slice A2 (digs 10000 b).length c2] 168)); have D0 := (Blk.new w2 #[.bool true, .slice A (digs 10000 a).length c] 168).alloc (.cells #[.bool false, .slice A2 (digs 10000 b).length c2] 168); have D1 := Blk.new (w2.alloc (.cells #[.bool true, .slice A (digs 10000 a).length c] 168)) #[.bool false, .slice A2 (digs 10000 b).length c2] 168; rw [World.size_alloc] at D1; rw [hWB] at hB RU RV D0 D1; have c00 := D0.cell 0; have c01 := D0.cell 1; have c10 := D1.cell 0; have c11 := D1.cell 1) | (go_at_call 111; refine (OV _ _ _ RU RV).mono ?_; clear OV; rintro e w3 ⟨v1, v3, rfl, hq, hr3, hb3⟩; have HQ := Aside0.mk hq; have HR := Aside0.mk hr3; obtain ⟨A3, c3, rfl, -, -⟩ := hq; obtain ⟨A4, c4, rfl, -, -⟩ := hr3; have E0 := D0.below hb3; have E1 := D1.below hb3; have c30 := E0.cell 0; have c31 := E1.cell 0; have c311 := E1.cell 1; have hB3 := bZs hB hb3))
 have hbD : Below w3.heap.size w3 w3.drew := bZd (Below.refl _ _)
 have QD := HQ.out.below hbD
 have RD := HR.out.below hbD
 have VD := (RV.below hb3).below hbD
 refine wp_cut5 (fun (_ : Value) (A5 : Option Addr) (c5 : Nat) (A6 : Option Addr) (c6 : Nat) w' => Below w3.heap.size w3 w' ∧ Rd w' (.slice A5 (digs 10000 (a / b + 1)).length c5) (digs 10000 (a / b + 1)) ∧ Rd w' (.slice A6 (digs 10000 (b - a % b)).length c6) (digs 10000 (b - a % b))) ?_
 apply Exists.intro
 apply And.intro
 ·refine wp_region_C (fun _ => false) (fun W => Below w3.heap.size w3.drew W) (by kernel_rfl) ?_
  have hC0 : Below w3.heap.size w3.drew w3.drew := Below.refl _ _
  refine wZt (i := 0) rfl (by kernel_rfl) (by kernel_rfl) (by kernel_rfl) (by kernel_rfl) (fun _ _ _ _ h => h) hC0 (by rfl) ?_
  apply Exists.intro
  refine ⟨fun W hW => ?_, ?_⟩
  ·go_simp
   try rfl
  refine wZt (i := 3) rfl (by kernel_rfl) (by kernel_rfl) (by kernel_rfl) (by kernel_rfl) (fun _ _ _ _ h => h) hC0 (by rfl) ?_
  apply Exists.intro
  refine ⟨fun W hW => ?_, ?_⟩
  ·go_simp
   try rfl
  refine wZt (i := 4) rfl (by kernel_rfl) (by kernel_rfl) (by kernel_rfl) (by kernel_rfl) (fun _ _ _ _ h => h) hC0 (by rfl) ?_
  apply Exists.intro
  refine ⟨fun W hW => ?_, ?_⟩
  ·have e3 := (E1.drew.below hW).cell 1
   go_simp
   try rfl
  refine wZt (i := 5) rfl (by kernel_rfl) (by kernel_rfl) (by kernel_rfl) (by kernel_rfl) (fun _ _ _ _ h => h) hC0 (by rfl) ?_
  apply Exists.intro
  refine ⟨fun W hW => ?_, ?_⟩
  ·go_simp
   try rfl
  refine wZs (i := 1) (by kernel_rfl) rfl (fun K hK => ?_)
  go_simp
  go_at_call 113
  refine (int_one _).mono ?_
  rintro e wA ⟨v1, rfl, hv1, hbA⟩
  refine hK _ _ (fun _ => hbA) ?_
  clear hK K
  refine wZs (i := 2) (by kernel_rfl) rfl (fun K hK => ?_)
  go_simp
  go_at_call 112
  refine (PL _ _ _ (QD.below hbA) (hv1)).mono ?_
  rintro e wB ⟨v5, rfl, hv5, hbB, -⟩
  refine hK _ _ (fun _ => bZs hbA hbB) ?_
  clear hK K
  have HV5 := Aside0.mk hv5
  obtain ⟨A5, c5, rfl, -, -⟩ := hv5
  refine wZs (i := 6) (by kernel_rfl) rfl (fun K hK => ?_)
  go_simp
  go_at_call 114
  refine (MI _ _ _ _ _ ((VD.below hbA).below hbB) ((RD.below hbA).below hbB)).mono ?_
  rintro e wC ⟨v6, rfl, hv6, hbC, -⟩
  refine hK _ _ (fun _ => bZs (bZs hbA hbB) hbC) ?_
  clear hK K
  have HV6 := Aside0.mk hv6
  obtain ⟨A6, c6, rfl, -, -⟩ := hv6
  refine wZt (i := 7) rfl (by kernel_rfl) (by kernel_rfl) (by kernel_rfl) (by kernel_rfl) (fun _ _ _ _ h => h) (bZs (bZs hbA hbB) hbC) (by rfl) ?_
  apply Exists.intro
  refine ⟨fun W hW => ?_, ?_⟩
  ·go_simp
   try rfl
  refine wZt (i := 8) rfl (by kernel_rfl) (by kernel_rfl) (by kernel_rfl) (by kernel_rfl) (fun _ _ _ _ h => h) (bZs (bZs hbA hbB) hbC) (by rfl) ?_
  apply Exists.intro
  refine ⟨fun W hW => ?_, ?_⟩
  ·go_simp
   try rfl
  refine wpAnyC_done (by kernel_rfl) ?_ _
  exact ⟨v1, A5, c5, A6, c6, rfl, bZs (bZs (bZs hbD hbA) hbB) hbC, HV5.out.below hbC, HV6.out⟩
 ·rintro v1 A5 c5 A6 c6 w4 ⟨hb4, hv5, hv6⟩
  have F0 := (E0.below hb4).cell 0
  have F1 := (E1.below hb4).cell 0
  have hB4 := bZs hB3 hb4
  go_wp2_with (first | (go_at_call 115; refine (T1 _ _ (hp.below hB4) hv5).mono ?_; clear T1; rintro e w5 ⟨rfl, hb5⟩; have hB5 := bZs hB4 hb5; have HR5 := hv6.below hb5) | (go_at_call 115; refine (T2 _ _ (hp.below hB5) HR5).mono ?_; rintro e w6 ⟨rfl, hb6⟩; have hB6 := bZs hB5 hb6))
  go_ret3
  exact ⟨rfl, hB6⟩
theorem div_tt (a b : Nat) (s1 s2 : ByteArray) (z r : Int) (w : World) (hp : Pow w) (l1 : (digs 10000 a).length ≤ 51) (l2 : (digs 10000 b).length ≤ 51) (hb0 : 0 < b) (hr0 : a % b ≠ 0) (hz : sgv false (a / b + 1) = z) (hr : sgv false (b - a % b) = r) (fz : fit z) (fr : fit r)
  (V1 : ∀ W, Calls Tryz.prog 110 #[.string s1, .string s2] W fun e w' => ∃ u v, e = .returned (.tuple #[.agg #[.bool true, u], .agg #[.bool true, v], .bool true]) ∧ Rd w' u (digs 10000 a) ∧ Rd w' v (digs 10000 b) ∧ Below W.heap.size W w') :
  Calls Tryz.prog 45 #[.string s1, .string s2] w fun e w' => e = .returned (.tuple #[.string (itx z), .string (itx r), .int .i64 0]) ∧ Below w.heap.size w w' := by
 have hlb : ((digs 10000 b).length == 0) = false := by
  have : 0 < (digs 10000 b).length := by rw [digs_pos (by decide) hb0]; simp
  simp; intro e; rw [e] at this; simp at this
 have OV := fun u v W h h' => int_over u v a b W h h' (by omega) (by omega) hb0
 have hrl : ((digs 10000 (a % b)).length : Int) > 0 := by
  have : 0 < (digs 10000 (a % b)).length := by rw [digs_pos (by decide) (Nat.pos_of_ne_zero hr0)]; simp
  omega
 have hml : a % b < b := Nat.mod_lt _ hb0
 have hqa := Nat.div_le_self a b
 have PL := fun v1 v W h h' => int_plus v v1 (a / b) 1 W h h' (by have := digs_len_le (b := 10000) (by decide) (Nat.lt_of_le_of_lt hqa (digs_big (b := 10000) (by decide) a)); omega) (by rw [digs_pos (by decide) (by decide), digs_zero]; simp)
 have MI := fun A2 c2 A4 c4 W h h' => int_minus (.slice A2 (digs 10000 b).length c2) (.slice A4 (digs 10000 (a % b)).length c4) b (a % b) W h h' (by omega) (Nat.le_of_lt hml)
 have T1 := fun u W hp h => sgt_ok false u (a / b + 1) z W hz fz hp h
 have T2 := fun u W hp h => sgt_ok false u (b - a % b) r W hr fr hp h
 generalize itx z = oz at *
 generalize itx r = or' at *
 clear hz hr fz fr
 go_enter Tryz.func45, Tryz.ntmps45
 go_wp2_with (first | (go_at_call 110; refine (V1 _).mono ?_; clear V1; rintro e w2 ⟨u, v, rfl, hu, hv, hb2⟩; have HU := Aside0.mk hu; have HV := Aside0.mk hv; obtain ⟨A, c, rfl, -, -⟩ := hu; obtain ⟨A2, c2, rfl, -, -⟩ := hv; obtain ⟨WB, hWB⟩ : ∃ WB, (w2.alloc (.cells #[.bool true, .slice A (digs 10000 a).length c] 168)).alloc (.cells #[.bool true, .slice A2 (digs 10000 b).length c2] 168) = WB := ⟨_, rfl⟩; have hB := bZa (bZa hb2 (.cells #[.bool true, .slice A (digs 10000 a).length c] 168)) (.cells #[.bool true, .slice A2 (digs 10000 b).length c2] 168); have RU := HU.out.below (bZa (bZa (Below.refl w2.heap.size w2) (.cells #[.bool true, .slice A (digs 10000 a).length c] 168)) (.cells #[.bool true, .slice A2 (digs 10000 b).length c2] 168)); have RV := HV.out.below (bZa (bZa (Below.refl w2.heap.size w2) (.cells #[.bool true, .slice A (digs 10000 a).length c] 168)) (.cells #[.bool true, .slice A2 (digs 10000 b).length c2] 168)); have D0 := (Blk.new w2 #[.bool true, .slice A (digs 10000 a).length c] 168).alloc (.cells #[.bool true, .slice A2 (digs 10000 b).length c2] 168); have D1 := Blk.new (w2.alloc (.cells #[.bool true, .slice A (digs 10000 a).length c] 168)) #[.bool true, .slice A2 (digs 10000 b).length c2] 168; rw [World.size_alloc] at D1; rw [hWB] at hB RU RV D0 D1; have c00 := D0.cell 0; have c01 := D0.cell 1; have c10 := D1.cell 0; have c11 := D1.cell 1) | (go_at_call 111; refine (OV _ _ _ RU RV).mono ?_; clear OV; rintro e w3 ⟨v1, v3, rfl, hq, hr3, hb3⟩; have HQ := Aside0.mk hq; have HR := Aside0.mk hr3; obtain ⟨A3, c3, rfl, -, -⟩ := hq; obtain ⟨A4, c4, rfl, -, -⟩ := hr3; have E0 := D0.below hb3; have E1 := D1.below hb3; have c30 := E0.cell 0; have c31 := E1.cell 0; have c311 := E1.cell 1; have hB3 := bZs hB hb3))
 have hbD : Below w3.heap.size w3 w3.drew := bZd (Below.refl _ _)
 have QD := HQ.out.below hbD
 have RD := HR.out.below hbD
 have VD := (RV.below hb3).below hbD
 refine wp_cut5 (fun (_ : Value) (A5 : Option Addr) (c5 : Nat) (A6 : Option Addr) (c6 : Nat) w' => Below w3.heap.size w3 w' ∧ Rd w' (.slice A5 (digs 10000 (a / b + 1)).length c5) (digs 10000 (a / b + 1)) ∧ Rd w' (.slice A6 (digs 10000 (b - a % b)).length c6) (digs 10000 (b - a % b))) ?_
 apply Exists.intro
 apply And.intro
 ·refine wp_region_C (fun _ => false) (fun W => Below w3.heap.size w3.drew W) (by kernel_rfl) ?_
  have hC0 : Below w3.heap.size w3.drew w3.drew := Below.refl _ _
  refine wZt (i := 0) rfl (by kernel_rfl) (by kernel_rfl) (by kernel_rfl) (by kernel_rfl) (fun _ _ _ _ h => h) hC0 (by rfl) ?_
  apply Exists.intro
  refine ⟨fun W hW => ?_, ?_⟩
  ·go_simp
   try rfl
  refine wZt (i := 3) rfl (by kernel_rfl) (by kernel_rfl) (by kernel_rfl) (by kernel_rfl) (fun _ _ _ _ h => h) hC0 (by rfl) ?_
  apply Exists.intro
  refine ⟨fun W hW => ?_, ?_⟩
  ·go_simp
   try rfl
  refine wZt (i := 4) rfl (by kernel_rfl) (by kernel_rfl) (by kernel_rfl) (by kernel_rfl) (fun _ _ _ _ h => h) hC0 (by rfl) ?_
  apply Exists.intro
  refine ⟨fun W hW => ?_, ?_⟩
  ·have e3 := (E1.drew.below hW).cell 1
   go_simp
   try rfl
  refine wZt (i := 5) rfl (by kernel_rfl) (by kernel_rfl) (by kernel_rfl) (by kernel_rfl) (fun _ _ _ _ h => h) hC0 (by rfl) ?_
  apply Exists.intro
  refine ⟨fun W hW => ?_, ?_⟩
  ·go_simp
   try rfl
  refine wZs (i := 1) (by kernel_rfl) rfl (fun K hK => ?_)
  go_simp
  go_at_call 113
  refine (int_one _).mono ?_
  rintro e wA ⟨v1, rfl, hv1, hbA⟩
  refine hK _ _ (fun _ => hbA) ?_
  clear hK K
  refine wZs (i := 2) (by kernel_rfl) rfl (fun K hK => ?_)
  go_simp
  go_at_call 112
  refine (PL _ _ _ (QD.below hbA) (hv1)).mono ?_
  rintro e wB ⟨v5, rfl, hv5, hbB, -⟩
  refine hK _ _ (fun _ => bZs hbA hbB) ?_
  clear hK K
  have HV5 := Aside0.mk hv5
  obtain ⟨A5, c5, rfl, -, -⟩ := hv5
  refine wZs (i := 6) (by kernel_rfl) rfl (fun K hK => ?_)
  go_simp
  go_at_call 114
  refine (MI _ _ _ _ _ ((VD.below hbA).below hbB) ((RD.below hbA).below hbB)).mono ?_
  rintro e wC ⟨v6, rfl, hv6, hbC, -⟩
  refine hK _ _ (fun _ => bZs (bZs hbA hbB) hbC) ?_
  clear hK K
  have HV6 := Aside0.mk hv6
  obtain ⟨A6, c6, rfl, -, -⟩ := hv6
  refine wZt (i := 7) rfl (by kernel_rfl) (by kernel_rfl) (by kernel_rfl) (by kernel_rfl) (fun _ _ _ _ h => h) (bZs (bZs hbA hbB) hbC) (by rfl) ?_
  apply Exists.intro
  refine ⟨fun W hW => ?_, ?_⟩
  ·go_simp
   try rfl
  refine wZt (i := 8) rfl (by kernel_rfl) (by kernel_rfl) (by kernel_rfl) (by kernel_rfl) (fun _ _ _ _ h => h) (bZs (bZs hbA hbB) hbC) (by rfl) ?_
  apply Exists.intro
  refine ⟨fun W hW => ?_, ?_⟩
  ·go_simp
   try rfl
  refine wpAnyC_done (by kernel_rfl) ?_ _
  exact ⟨v1, A5, c5, A6, c6, rfl, bZs (bZs (bZs hbD hbA) hbB) hbC, HV5.out.below hbC, HV6.out⟩
 ·rintro v1 A5 c5 A6 c6 w4 ⟨hb4, hv5, hv6⟩
  have F0 := (E0.below hb4).cell 0
  have F1 := (E1.below hb4).cell 0
  have hB4 := bZs hB3 hb4
  go_wp2_with (first | (go_at_call 115; refine (T1 _ _ (hp.below hB4) hv5).mono ?_; clear T1; rintro e w5 ⟨rfl, hb5⟩; have hB5 := bZs hB4 hb5; have HR5 := hv6.below hb5) | (go_at_call 115; refine (T2 _ _ (hp.below hB5) HR5).mono ?_; rintro e w6 ⟨rfl, hb6⟩; have hB6 := bZs hB5 hb6))
  go_ret3
  exact ⟨rfl, hB6⟩
theorem int_Div (x y : Int) (w : World) (hp : Pow w) (h1 : fit x) (h2 : fit y) (hy : y ≠ 0) :
  Calls Tryz.prog 45 #[.string (itx x), .string (itx y)] w fun e w' => e = .returned (.tuple #[.string (itx (x / y)), .string (itx (x % y)), .int .i64 0]) ∧ Below w.heap.size w w' := by
 have V1 := fun W => int_both x y W h1 h2
 have l1 := fit_big h1
 have l2 := fit_big h2
 have fz := fit_div y h1
 have fr := fit_mod (x := x) hy h2
 have hb0 : 0 < y.natAbs := by omega
 by_cases hx : x < 0
 ·by_cases hm : x.natAbs % y.natAbs = 0
  ·obtain ⟨e1, e2⟩ := div_keep hy (.inr hm)
   rw [hm] at e2
   by_cases hyn : y < 0 <;> simp only [hx, hyn, decide_true, decide_false] at V1 e1
   ·exact div_tt0 _ _ _ _ _ _ w hp l1 l2 hb0 hm e1 e2 fz fr V1
   ·exact div_tf0 _ _ _ _ _ _ w hp l1 l2 hb0 hm e1 e2 fz fr V1
  ·obtain ⟨e1, e2⟩ := div_turn hy hx hm
   by_cases hyn : y < 0 <;> simp only [hx, hyn, decide_true, decide_false] at V1 e1
   ·exact div_tt _ _ _ _ _ _ w hp l1 l2 hb0 hm e1 e2 fz fr V1
   ·exact div_tf _ _ _ _ _ _ w hp l1 l2 hb0 hm e1 e2 fz fr V1
 ·obtain ⟨e1, e2⟩ := div_keep hy (.inl hx)
  by_cases hyn : y < 0 <;> simp only [hx, hyn, decide_true, decide_false] at V1 e1
  ·exact div_ft _ _ _ _ _ _ w hp l1 l2 hb0 e1 e2 fz fr V1
  ·exact div_ff _ _ _ _ _ _ w hp l1 l2 hb0 e1 e2 fz fr V1
theorem int_FromInt (n : Int) (w : World) (hp : Pow w) (h0 : -9223372036854775808 ≤ n) (h1 : n ≤ 9223372036854775807) :
  Calls Tryz.prog 139 #[.int .i64 n] w fun e w' => e = .returned (.string (itx n)) ∧ Below w.heap.size w w' := by
 have IT : ∀ W, Pow W → Calls Tryz.prog 173 #[.int .i64 n] W fun e w' => e = .returned (.string (itx n)) ∧ Below W.heap.size W w' := by
  intro W h
  refine (Lz.strconv_Itoa n h0 h1 W h).mono ?_
  rintro e w' ⟨rfl, k, os, rfl⟩
  refine ⟨?_, rfl, rfl, rfl, by simp [Sort.grow], fun i hi => Sort.heap_grow_old (W.drewN k) os hi⟩
  rw [itx_arr]
 generalize itx n = o at *
 go_enter Tryz.func139, Tryz.ntmps139
 go_wp2_with (go_at_call 173; refine (IT _ hp).mono ?_; clear IT; rintro e w2 ⟨rfl, hb2⟩)
 go_ret
 exact ⟨rfl, hb2⟩
theorem int_Gcd (x y : Int) (w : World) (hp : Pow w) (h1 : fit x) (h2 : fit y) :
  Calls Tryz.prog 109 #[.string (itx x), .string (itx y)] w fun e w' => e = .returned (.tuple #[.string (itx (Nat.gcd x.natAbs y.natAbs : Nat)), .int .i64 0]) ∧ Below w.heap.size w w' := by
 have V1 := fun W => int_both x y W h1 h2
 have l1 := fit_big h1
 have l2 := fit_big h2
 obtain ⟨a0, ha0⟩ : ∃ a, x.natAbs = a := ⟨_, rfl⟩
 obtain ⟨b0, hb0⟩ : ∃ a, y.natAbs = a := ⟨_, rfl⟩
 unfold fit at h1 h2
 simp only [ha0, hb0] at h1 h2 V1 l1 l2 ⊢
 obtain ⟨G, hG⟩ : ∃ G, Nat.gcd a0 b0 = G := ⟨_, rfl⟩
 rw [hG]
 have hfG : ∀ n : Nat, n < 10 ^ 200 → n = G → fit (G : Int) := fun n hn e => by subst e; unfold fit; simpa using hn
 generalize itx x = s1 at *
 generalize itx y = s2 at *
 generalize decide (x < 0) = b1 at *
 generalize decide (y < 0) = b2 at *
 have F1 := Aside0.mk h1
 have F2 := Aside0.mk h2
 have FG := Aside0.mk hG
 have FF := Aside0.mk hfG
 clear h1 h2 hG ha0 hb0 hfG
 go_enter Tryz.func109, Tryz.ntmps109
 go_wp2_with (go_at_call 110; refine (V1 _).mono ?_; clear V1; rintro e w2 ⟨u, v, rfl, hu, hv, hb2⟩; have HU := Aside0.mk hu; have HV := Aside0.mk hv; obtain ⟨A, c, rfl, -, -⟩ := hu; obtain ⟨A2, c2, rfl, -, -⟩ := hv)
 have D0 := (Blk.new w2 #[.bool b1, .slice A (digs 10000 a0).length c] 168).alloc (.cells #[.bool b2, .slice A2 (digs 10000 b0).length c2] 168)
 have D1 := Blk.new (w2.alloc (.cells #[.bool b1, .slice A (digs 10000 a0).length c] 168)) #[.bool b2, .slice A2 (digs 10000 b0).length c2] 168
 rw [World.size_alloc] at D1
 have hB := bZa (bZa hb2 (.cells #[.bool b1, .slice A (digs 10000 a0).length c] 168)) (.cells #[.bool b2, .slice A2 (digs 10000 b0).length c2] 168)
 have RU := HU.out.below (bZa (bZa (Below.refl w2.heap.size w2) (.cells #[.bool b1, .slice A (digs 10000 a0).length c] 168)) (.cells #[.bool b2, .slice A2 (digs 10000 b0).length c2] 168))
 have RV := HV.out.below (bZa (bZa (Below.refl w2.heap.size w2) (.cells #[.bool b1, .slice A (digs 10000 a0).length c] 168)) (.cells #[.bool b2, .slice A2 (digs 10000 b0).length c2] 168))
 generalize (w2.alloc (.cells #[.bool b1, .slice A (digs 10000 a0).length c] 168)).alloc (.cells #[.bool b2, .slice A2 (digs 10000 b0).length c2] 168) = WB at *
 have c01 := D0.cell 1
 have c11 := D1.cell 1
 go_quiet (fail)
 have hBq := bZs hB (drewN_below WB nq)
 have RUq := RU.below (drewN_below WB nq)
 have RVq := RV.below (drewN_below WB nq)
 generalize WB.drewN nq = WQ at *
 clear D0 D1 hB RU RV c01 c11 HU HV hb2
 go_wp2
 go_loopg [9, 10] b0 (fun k v9 v10 w' => ∃ a : Nat, Rd w' v9 (digs 10000 a) ∧ Rd w' v10 (digs 10000 k) ∧ Aside0 (Nat.gcd a k = G ∧ a < 10 ^ 200 ∧ k < 10 ^ 200) ∧ Below w.heap.size w w')
 case atStart => exact ⟨a0, RUq, RVq, ⟨FG.out, F1.out, F2.out⟩, hBq⟩
 clear RUq RVq hBq
 obtain ⟨a, HA, HK, F, HB⟩ := hrel
 by_cases hk : gk = 0
 ·subst hk
  rw [digs_zero] at HK
  obtain ⟨A, c, rfl, -, -⟩ := HK
  have HA2 := Aside0.mk HA
  obtain ⟨A, c, rfl, -, -⟩ := HA
  have e1 : a = G := by have := F.out.1; rwa [Nat.gcd_zero_right] at this
  have S := sgt_ok false (.slice A (digs 10000 a).length c) a (G : Int) wr (by rw [e1]; rfl) (FF.out a F.out.2.1 e1) (hp.below HB) HA2.out
  clear e1
  go_wp2_with (go_at_call 115; refine S.mono ?_; clear S; rintro e w4 ⟨rfl, hb4⟩)
  go_ret2
  exact ⟨rfl, bZs HB hb4⟩
 ·have hpos : 0 < (digs 10000 gk).length := by
   rw [digs_pos (by decide) (by omega)]
   simp
  have hposI : ((digs 10000 gk).length : Int) > 0 := by omega
  have HK2 := HK
  obtain ⟨A, c, rfl, -, -⟩ := HK
  have la := fit_big (x := (a : Int)) (by unfold fit; simpa using F.out.2.1)
  have lk := fit_big (x := (gk : Int)) (by unfold fit; simpa using F.out.2.2)
  rw [Int.natAbs_natCast] at la lk
  have T := int_over _ (.slice A (digs 10000 gk).length c) a gk wr HA HK2 (by omega) (by omega) (by omega)
  go_wp2_with (go_at_call 111; refine T.mono ?_; clear T; rintro e w4 ⟨q4, r4, rfl, hq4, hr4, hb4⟩)
  go_roundg (a % gk)
  case measure => exact Nat.mod_lt _ (by omega)
  case rel =>
   refine ⟨gk, HK2.below hb4, hr4, ⟨?_, F.out.2.2, ?_⟩, bZs HB hb4⟩
   ·rw [← F.out.1, Nat.gcd_comm a gk, Nat.gcd_rec gk a, Nat.gcd_comm]
   ·have := Nat.mod_lt a (show 0 < gk by omega)
    have := F.out.2.2
    omega
theorem int_Mul (x y : Int) (w : World) (hp : Pow w) (h1 : fit x) (h2 : fit y) :
  Calls Tryz.prog 178 #[.string (itx x), .string (itx y)] w fun e w' => e = .returned (.tuple #[.string (outT (x * y)), .int .i64 (outC (x * y))]) ∧ Below w.heap.size w w' := by
 have V1 := fun W => int_both x y W h1 h2
 have l1 := fit_big h1
 have l2 := fit_big h2
 have hx := sgv_flag x
 have hy := sgv_flag y
 generalize itx x = s1 at *
 generalize itx y = s2 at *
 generalize decide (x < 0) = m at *
 generalize decide (y < 0) = n at *
 generalize x.natAbs = a at *
 generalize y.natAbs = b at *
 subst hx hy
 clear h1 h2
 go_enter Tryz.func178, Tryz.ntmps178
 go_wp2_with (first | (go_at_call 110; refine (V1 _).mono ?_; clear V1; rintro e w2 ⟨u, v, rfl, hu, hv, hb2⟩; have HU := Aside0.mk hu; have HV := Aside0.mk hv; obtain ⟨A, c, rfl, -, -⟩ := hu; obtain ⟨A2, c2, rfl, -, -⟩ := hv))
 have D0 := ((Blk.new w2 #[.bool m, .slice A (digs 10000 a).length c] 168).alloc (.cells #[.bool n, .slice A2 (digs 10000 b).length c2] 168)).drew
 have D1 := (Blk.new (w2.alloc (.cells #[.bool m, .slice A (digs 10000 a).length c] 168)) #[.bool n, .slice A2 (digs 10000 b).length c2] 168).drew
 rw [World.size_alloc] at D1
 have hB0 := bZd (bZa (bZa hb2 (.cells #[.bool m, .slice A (digs 10000 a).length c] 168)) (.cells #[.bool n, .slice A2 (digs 10000 b).length c2] 168))
 have TM := fun W h h' => int_times (.slice A (digs 10000 a).length c) (.slice A2 (digs 10000 b).length c2) a b W h h' (by omega) (by omega)
 have RU := HU.out.below (bZd (bZa (bZa (Below.refl w2.heap.size w2) (.cells #[.bool m, .slice A (digs 10000 a).length c] 168)) (.cells #[.bool n, .slice A2 (digs 10000 b).length c2] 168)))
 have RV := HV.out.below (bZd (bZa (bZa (Below.refl w2.heap.size w2) (.cells #[.bool m, .slice A (digs 10000 a).length c] 168)) (.cells #[.bool n, .slice A2 (digs 10000 b).length c2] 168)))
 have c0 := D0.cell 0
 have c01 := D0.cell 1
 have c1 := D1.cell 0
 have c11 := D1.cell 1
 have HZ : Aside0 (sgv (m != n) (a * b) = sgv m a * sgv n b) := ⟨sgv_mul m n a b⟩
 have hml := mul_len l1 l2
 obtain ⟨WB, hWB⟩ : ∃ WB, ((w2.alloc (.cells #[.bool m, .slice A (digs 10000 a).length c] 168)).alloc (.cells #[.bool n, .slice A2 (digs 10000 b).length c2] 168)).drew = WB := ⟨_, rfl⟩
 refine wp_region_C (fun _ => false) (fun W => Below WB.heap.size WB W) (by kernel_rfl) ?_
 rw [hWB] at D0 D1 hB0 RU RV ⊢
 clear c0 c01 c1 c11 hWB
 have hC0 : Below WB.heap.size WB WB := Below.refl _ _
 refine wZt (i := 0) rfl (by kernel_rfl) (by kernel_rfl) (by kernel_rfl) (by kernel_rfl) (fun _ _ _ _ h => h) hC0 (by rfl) ?_
 apply Exists.intro
 refine ⟨fun W hW => ?_, ?_⟩
 ·have e0 := (D0.below hW).cell 0
  have e1 := (D0.below hW).cell 1
  have e2 := (D1.below hW).cell 0
  have e3 := (D1.below hW).cell 1
  go_simp
  try rfl
 refine wZt (i := 1) rfl (by kernel_rfl) (by kernel_rfl) (by kernel_rfl) (by kernel_rfl) (fun _ _ _ _ h => h) hC0 (by rfl) ?_
 apply Exists.intro
 refine ⟨fun W hW => ?_, ?_⟩
 ·have e0 := (D0.below hW).cell 0
  have e1 := (D0.below hW).cell 1
  have e2 := (D1.below hW).cell 0
  have e3 := (D1.below hW).cell 1
  go_simp
  try rfl
 refine wZt (i := 2) rfl (by kernel_rfl) (by kernel_rfl) (by kernel_rfl) (by kernel_rfl) (fun _ _ _ _ h => h) hC0 (by rfl) ?_
 apply Exists.intro
 refine ⟨fun W hW => ?_, ?_⟩
 ·have e0 := (D0.below hW).cell 0
  have e1 := (D0.below hW).cell 1
  have e2 := (D1.below hW).cell 0
  have e3 := (D1.below hW).cell 1
  go_simp
  try rfl
 refine wZt (i := 3) rfl (by kernel_rfl) (by kernel_rfl) (by kernel_rfl) (by kernel_rfl) (fun _ _ _ _ h => h) hC0 (by rfl) ?_
 apply Exists.intro
 refine ⟨fun W hW => ?_, ?_⟩
 ·have e0 := (D0.below hW).cell 0
  have e1 := (D0.below hW).cell 1
  have e2 := (D1.below hW).cell 0
  have e3 := (D1.below hW).cell 1
  go_simp
  try rfl
 refine wZt (i := 4) rfl (by kernel_rfl) (by kernel_rfl) (by kernel_rfl) (by kernel_rfl) (fun _ _ _ _ h => h) hC0 (by rfl) ?_
 apply Exists.intro
 refine ⟨fun W hW => ?_, ?_⟩
 ·have e0 := (D0.below hW).cell 0
  have e1 := (D0.below hW).cell 1
  have e2 := (D1.below hW).cell 0
  have e3 := (D1.below hW).cell 1
  go_simp
  try rfl
 refine wZt (i := 5) rfl (by kernel_rfl) (by kernel_rfl) (by kernel_rfl) (by kernel_rfl) (fun _ _ _ _ h => h) hC0 (by rfl) ?_
 apply Exists.intro
 refine ⟨fun W hW => ?_, ?_⟩
 ·have e0 := (D0.below hW).cell 0
  have e1 := (D0.below hW).cell 1
  have e2 := (D1.below hW).cell 0
  have e3 := (D1.below hW).cell 1
  go_simp
  try rfl
 refine wZt (i := 6) rfl (by kernel_rfl) (by kernel_rfl) (by kernel_rfl) (by kernel_rfl) (fun _ _ _ _ h => h) hC0 (by rfl) ?_
 apply Exists.intro
 refine ⟨fun W hW => ?_, ?_⟩
 ·have e0 := (D0.below hW).cell 0
  have e1 := (D0.below hW).cell 1
  have e2 := (D1.below hW).cell 0
  have e3 := (D1.below hW).cell 1
  go_simp
  try rfl
 refine wZt (i := 7) rfl (by kernel_rfl) (by kernel_rfl) (by kernel_rfl) (by kernel_rfl) (fun _ _ _ _ h => h) hC0 (by rfl) ?_
 apply Exists.intro
 refine ⟨fun W hW => ?_, ?_⟩
 ·have e0 := (D0.below hW).cell 0
  have e1 := (D0.below hW).cell 1
  have e2 := (D1.below hW).cell 0
  have e3 := (D1.below hW).cell 1
  go_simp
  try rfl
 refine wZt (i := 8) rfl (by kernel_rfl) (by kernel_rfl) (by kernel_rfl) (by kernel_rfl) (fun _ _ _ _ h => h) hC0 (by rfl) ?_
 apply Exists.intro
 refine ⟨fun W hW => ?_, ?_⟩
 ·have e0 := (D0.below hW).cell 0
  have e1 := (D0.below hW).cell 1
  have e2 := (D1.below hW).cell 0
  have e3 := (D1.below hW).cell 1
  go_simp
  try rfl
 refine wZs (i := 9) (by kernel_rfl) rfl (fun K hK => ?_)
 go_simp
 go_at_call 209
 refine (TM _ RU RV).mono ?_
 rintro e w3 ⟨v3, rfl, hv3, hb3⟩
 refine hK _ _ (fun _ => hb3) ?_
 clear hK K
 have HV3 := Aside0.mk hv3
 obtain ⟨A3, c3, rfl, -, -⟩ := hv3
 refine wZt (i := 10) rfl (by kernel_rfl) (by kernel_rfl) (by kernel_rfl) (by kernel_rfl) (fun _ _ _ _ h => h) hb3 (by rfl) ?_
 apply Exists.intro
 refine ⟨fun W hW => ?_, ?_⟩
 ·go_simp
  try rfl
 refine wZs (i := 11) (by kernel_rfl) rfl (fun K hK => ?_)
 go_simp
 go_at_call 115
 refine (sg_text (m != n) _ (a * b) _ (hp.below (bZs hB0 hb3)) HV3.out hml).mono ?_
 rintro e w4 ⟨rfl, hb4⟩
 refine hK _ _ (fun _ => bZs hb3 hb4) ?_
 clear hK K
 refine wZt (i := 12) rfl (by kernel_rfl) (by kernel_rfl) (by kernel_rfl) (by kernel_rfl) (fun _ _ _ _ h => h) (bZs hb3 hb4) (by rfl) ?_
 apply Exists.intro
 refine ⟨fun W hW => ?_, ?_⟩
 ·go_simp
  try rfl
 refine wZt (i := 13) rfl (by kernel_rfl) (by kernel_rfl) (by kernel_rfl) (by kernel_rfl) (fun _ _ _ _ h => h) (bZs hb3 hb4) (by rfl) ?_
 apply Exists.intro
 refine ⟨fun W hW => ?_, ?_⟩
 ·go_simp
  try rfl
 refine wZt (i := 14) rfl (by kernel_rfl) (by kernel_rfl) (by kernel_rfl) (by kernel_rfl) (fun _ _ _ _ h => h) (bZs hb3 hb4) (by rfl) ?_
 apply Exists.intro
 refine ⟨fun W hW => ?_, ?_⟩
 ·go_simp
  try rfl
 refine wZt (i := 15) rfl (by kernel_rfl) (by kernel_rfl) (by kernel_rfl) (by kernel_rfl) (fun _ _ _ _ h => h) (bZs hb3 hb4) (by rfl) ?_
 apply Exists.intro
 refine ⟨fun W hW => ?_, ?_⟩
 ·go_simp
  try rfl
 refine wpAnyC_done (by kernel_rfl) ?_ _
 go_wp2
 go_ret2
 exact ⟨by rw [← HZ.out]; rfl, bZs (bZs hB0 hb3) hb4⟩
end Go.Proofs.YtociicfjhgfgpaaGreatDoor

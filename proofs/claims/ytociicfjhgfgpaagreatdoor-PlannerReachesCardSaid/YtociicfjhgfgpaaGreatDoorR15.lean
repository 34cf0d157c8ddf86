/- integer: Div: the walk. -/
import Derived.Test.YtociicfjhgfgpaaGreatDoorR13
import Derived.Test.YtociicfjhgfgpaaGreatDoorR14
set_option linter.unusedVariables false
set_option linter.unusedSimpArgs false
set_option maxHeartbeats 4000000
set_option maxRecDepth 100000
namespace Go.Proofs.YtociicfjhgfgpaaGreatDoor
open Go.RowKit Go.Shelf Go.Lib Go.Proofs.YtociicfjhgfgpaaGreatDoorW.PrintWords
theorem sgt_ok (n : Bool) (u : Value) (x : Nat) (z : Int) (W : World) (hz : sgv n x = z) (hf : fit z) (hp : Pow W) (h : Rd W u (digs 10000 x)) :
  Calls Tryz.prog 115 #[.agg #[.bool n, u]] W fun e w' => e = .returned (.tuple #[.string (itx z), .int .i64 0]) ∧ Below W.heap.size W w' := by
 subst hz
 have hl : (digs 10000 x).length ≤ 1000 := by
  have := fit_big hf
  rw [sgv_abs] at this
  omega
 refine (sg_text n u x W hp h hl).mono ?_
 rintro e w' ⟨rfl, hb⟩
 unfold outT outC
 rw [if_pos hf, if_pos hf]
 exact ⟨rfl, hb⟩
def CutPost5 {α β γ δ ε : Type} (act : α → β → γ → δ → ε → Act) (G : α → β → γ → δ → ε → World → Prop) : Exit → Act → World → Prop := fun e a' w' => match e with | .normal => ∃ x y z u v, a' = act x y z u v ∧ G x y z u v w' | _ => False
theorem wp_cut5 {α β γ δ ε : Type} {P : Program} {c : Code} {Q : Exit → Act → World → Prop} {a : Act} {w : World} (G : α → β → γ → δ → ε → World → Prop) (h : ∃ act : α → β → γ → δ → ε → Act, c.wp P (CutPost5 act G) a w ∧ ∀ x y z u v w', G x y z u v w' → Q .normal (act x y z u v) w') : c.wp P Q a w := by
 obtain ⟨act, h1, h2⟩ := h
 refine Code.wp_mono (fun e a' w' hg => ?_) h1
 cases e with
 | normal => obtain ⟨x, y, z, u, v, rfl, hg⟩ := hg; exact h2 x y z u v _ hg
 | _ => exact hg.elim
theorem div_ff (a b : Nat) (s1 s2 : ByteArray) (z r : Int) (w : World) (hp : Pow w) (l1 : (digs 10000 a).length ≤ 51) (l2 : (digs 10000 b).length ≤ 51) (hb0 : 0 < b) (hz : sgv false (a / b) = z) (hr : sgv false (a % b) = r) (fz : fit z) (fr : fit r)
  (V1 : ∀ W, Calls Tryz.prog 110 #[.string s1, .string s2] W fun e w' => ∃ u v, e = .returned (.tuple #[.agg #[.bool false, u], .agg #[.bool false, v], .bool true]) ∧ Rd w' u (digs 10000 a) ∧ Rd w' v (digs 10000 b) ∧ Below W.heap.size W w') :
  Calls Tryz.prog 45 #[.string s1, .string s2] w fun e w' => e = .returned (.tuple #[.string (itx z), .string (itx r), .int .i64 0]) ∧ Below w.heap.size w w' := by
 have hlb : ((digs 10000 b).length == 0) = false := by
  have : 0 < (digs 10000 b).length := by rw [digs_pos (by decide) hb0]; simp
  simp; intro e; rw [e] at this; simp at this
 have OV := fun u v W h h' => int_over u v a b W h h' (by omega) (by omega) hb0
 have T1 := fun u W hp h => sgt_ok false u (a / b) z W hz fz hp h
 have T2 := fun u W hp h => sgt_ok false u (a % b) r W hr fr hp h
 generalize itx z = oz at *
 generalize itx r = or' at *
 clear hz hr fz fr
 go_enter Tryz.func45, Tryz.ntmps45
 go_wp2_with (first | (go_at_call 110; refine (V1 _).mono ?_; clear V1; rintro e w2 ⟨u, v, rfl, hu, hv, hb2⟩; have HU := Aside0.mk hu; have HV := Aside0.mk hv; obtain ⟨A, c, rfl, -, -⟩ := hu; obtain ⟨A2, c2, rfl, -, -⟩ := hv; obtain ⟨WB, hWB⟩ : ∃ WB, (w2.alloc (.cells #[.bool false, .slice A (digs 10000 a).length c] 168)).alloc (.cells #[.bool false, .slice A2 (digs 10000 b).length c2] 168) = WB := ⟨_, rfl⟩; have hB := bZa (bZa hb2 (.cells #[.bool false, .slice A (digs 10000 a).length c] 168)) (.cells #[.bool false, .slice A2 (digs 10000 b).length c2] 168); have RU := HU.out.below (bZa (bZa (Below.refl w2.heap.size w2) (.cells #[.bool false, .slice A (digs 10000 a).length c] 168)) (.cells #[.bool false, .slice A2 (digs 10000 b).length c2] 168)); have RV := HV.out.below (bZa (bZa (Below.refl w2.heap.size w2) (.cells #[.bool false, .slice A (digs 10000 a).length c] 168)) (.cells #[.bool false, .slice A2 (digs 10000 b).length c2] 168)); have D0 := (Blk.new w2 #[.bool false, .slice A (digs 10000 a).length c] 168).alloc (.cells #[.bool false, .slice A2 (digs 10000 b).length c2] 168); have D1 := Blk.new (w2.alloc (.cells #[.bool false, .slice A (digs 10000 a).length c] 168)) #[.bool false, .slice A2 (digs 10000 b).length c2] 168; rw [World.size_alloc] at D1; rw [hWB] at hB RU RV D0 D1; have c00 := D0.cell 0; have c01 := D0.cell 1; have c10 := D1.cell 0; have c11 := D1.cell 1) | (go_at_call 111; refine (OV _ _ _ RU RV).mono ?_; clear OV; rintro e w3 ⟨v1, v3, rfl, hq, hr3, hb3⟩; have HQ := Aside0.mk hq; have HR := Aside0.mk hr3; obtain ⟨A3, c3, rfl, -, -⟩ := hq; obtain ⟨A4, c4, rfl, -, -⟩ := hr3; have E0 := D0.below hb3; have E1 := D1.below hb3; have c30 := E0.cell 0; have c31 := E1.cell 0; have c311 := E1.cell 1; have hB3 := bZs hB hb3) | (go_at_call 115; refine (T1 _ _ (hp.below hB3) HQ.out).mono ?_; clear T1; rintro e w5 ⟨rfl, hb5⟩; have hB5 := bZs hB3 hb5; have HR5 := HR.out.below hb5) | (go_at_call 115; refine (T2 _ _ (hp.below hB5) HR5).mono ?_; rintro e w6 ⟨rfl, hb6⟩; have hB6 := bZs hB5 hb6))
 go_ret3
 exact ⟨rfl, hB6⟩
theorem div_ft (a b : Nat) (s1 s2 : ByteArray) (z r : Int) (w : World) (hp : Pow w) (l1 : (digs 10000 a).length ≤ 51) (l2 : (digs 10000 b).length ≤ 51) (hb0 : 0 < b) (hz : sgv true (a / b) = z) (hr : sgv false (a % b) = r) (fz : fit z) (fr : fit r)
  (V1 : ∀ W, Calls Tryz.prog 110 #[.string s1, .string s2] W fun e w' => ∃ u v, e = .returned (.tuple #[.agg #[.bool false, u], .agg #[.bool true, v], .bool true]) ∧ Rd w' u (digs 10000 a) ∧ Rd w' v (digs 10000 b) ∧ Below W.heap.size W w') :
  Calls Tryz.prog 45 #[.string s1, .string s2] w fun e w' => e = .returned (.tuple #[.string (itx z), .string (itx r), .int .i64 0]) ∧ Below w.heap.size w w' := by
 have hlb : ((digs 10000 b).length == 0) = false := by
  have : 0 < (digs 10000 b).length := by rw [digs_pos (by decide) hb0]; simp
  simp; intro e; rw [e] at this; simp at this
 have OV := fun u v W h h' => int_over u v a b W h h' (by omega) (by omega) hb0
 have T1 := fun u W hp h => sgt_ok true u (a / b) z W hz fz hp h
 have T2 := fun u W hp h => sgt_ok false u (a % b) r W hr fr hp h
 generalize itx z = oz at *
 generalize itx r = or' at *
 clear hz hr fz fr
 go_enter Tryz.func45, Tryz.ntmps45
 go_wp2_with (first | (go_at_call 110; refine (V1 _).mono ?_; clear V1; rintro e w2 ⟨u, v, rfl, hu, hv, hb2⟩; have HU := Aside0.mk hu; have HV := Aside0.mk hv; obtain ⟨A, c, rfl, -, -⟩ := hu; obtain ⟨A2, c2, rfl, -, -⟩ := hv; obtain ⟨WB, hWB⟩ : ∃ WB, (w2.alloc (.cells #[.bool false, .slice A (digs 10000 a).length c] 168)).alloc (.cells #[.bool true, .slice A2 (digs 10000 b).length c2] 168) = WB := ⟨_, rfl⟩; have hB := bZa (bZa hb2 (.cells #[.bool false, .slice A (digs 10000 a).length c] 168)) (.cells #[.bool true, .slice A2 (digs 10000 b).length c2] 168); have RU := HU.out.below (bZa (bZa (Below.refl w2.heap.size w2) (.cells #[.bool false, .slice A (digs 10000 a).length c] 168)) (.cells #[.bool true, .slice A2 (digs 10000 b).length c2] 168)); have RV := HV.out.below (bZa (bZa (Below.refl w2.heap.size w2) (.cells #[.bool false, .slice A (digs 10000 a).length c] 168)) (.cells #[.bool true, .slice A2 (digs 10000 b).length c2] 168)); have D0 := (Blk.new w2 #[.bool false, .slice A (digs 10000 a).length c] 168).alloc (.cells #[.bool true, .slice A2 (digs 10000 b).length c2] 168); have D1 := Blk.new (w2.alloc (.cells #[.bool false, .slice A (digs 10000 a).length c] 168)) #[.bool true, .slice A2 (digs 10000 b).length c2] 168; rw [World.size_alloc] at D1; rw [hWB] at hB RU RV D0 D1; have c00 := D0.cell 0; have c01 := D0.cell 1; have c10 := D1.cell 0; have c11 := D1.cell 1) | (go_at_call 111; refine (OV _ _ _ RU RV).mono ?_; clear OV; rintro e w3 ⟨v1, v3, rfl, hq, hr3, hb3⟩; have HQ := Aside0.mk hq; have HR := Aside0.mk hr3; obtain ⟨A3, c3, rfl, -, -⟩ := hq; obtain ⟨A4, c4, rfl, -, -⟩ := hr3; have E0 := D0.below hb3; have E1 := D1.below hb3; have c30 := E0.cell 0; have c31 := E1.cell 0; have c311 := E1.cell 1; have hB3 := bZs hB hb3) | (go_at_call 115; refine (T1 _ _ (hp.below hB3) HQ.out).mono ?_; clear T1; rintro e w5 ⟨rfl, hb5⟩; have hB5 := bZs hB3 hb5; have HR5 := HR.out.below hb5) | (go_at_call 115; refine (T2 _ _ (hp.below hB5) HR5).mono ?_; rintro e w6 ⟨rfl, hb6⟩; have hB6 := bZs hB5 hb6))
 go_ret3
 exact ⟨rfl, hB6⟩
theorem div_tf0 (a b : Nat) (s1 s2 : ByteArray) (z r : Int) (w : World) (hp : Pow w) (l1 : (digs 10000 a).length ≤ 51) (l2 : (digs 10000 b).length ≤ 51) (hb0 : 0 < b) (hr0 : a % b = 0) (hz : sgv true (a / b) = z) (hr : sgv false (0) = r) (fz : fit z) (fr : fit r)
  (V1 : ∀ W, Calls Tryz.prog 110 #[.string s1, .string s2] W fun e w' => ∃ u v, e = .returned (.tuple #[.agg #[.bool true, u], .agg #[.bool false, v], .bool true]) ∧ Rd w' u (digs 10000 a) ∧ Rd w' v (digs 10000 b) ∧ Below W.heap.size W w') :
  Calls Tryz.prog 45 #[.string s1, .string s2] w fun e w' => e = .returned (.tuple #[.string (itx z), .string (itx r), .int .i64 0]) ∧ Below w.heap.size w w' := by
 have hlb : ((digs 10000 b).length == 0) = false := by
  have : 0 < (digs 10000 b).length := by rw [digs_pos (by decide) hb0]; simp
  simp; intro e; rw [e] at this; simp at this
 have OV := fun u v W h h' => int_over u v a b W h h' (by omega) (by omega) hb0
 rw [hr0] at OV
 simp only [digs_zero] at OV
 have T1 := fun u W hp h => sgt_ok true u (a / b) z W hz fz hp h
 have T2 := fun u W hp h => sgt_ok false u (0) r W hr fr hp h
 simp only [digs_zero] at T2
 generalize itx z = oz at *
 generalize itx r = or' at *
 clear hz hr fz fr
 go_enter Tryz.func45, Tryz.ntmps45
 go_wp2_with (first | (go_at_call 110; refine (V1 _).mono ?_; clear V1; rintro e w2 ⟨u, v, rfl, hu, hv, hb2⟩; have HU := Aside0.mk hu; have HV := Aside0.mk hv; obtain ⟨A, c, rfl, -, -⟩ := hu; obtain ⟨A2, c2, rfl, -, -⟩ := hv; obtain ⟨WB, hWB⟩ : ∃ WB, (w2.alloc (.cells #[.bool true, .slice A (digs 10000 a).length c] 168)).alloc (.cells #[.bool false, .slice A2 (digs 10000 b).length c2] 168) = WB := ⟨_, rfl⟩; have hB := bZa (bZa hb2 (.cells #[.bool true, .slice A (digs 10000 a).length c] 168)) (.cells #[.bool false, .slice A2 (digs 10000 b).length c2] 168); have RU := HU.out.below (bZa (bZa (Below.refl w2.heap.size w2) (.cells #[.bool true, .slice A (digs 10000 a).length c] 168)) (.cells #[.bool false, .slice A2 (digs 10000 b).length c2] 168)); have RV := HV.out.below (bZa (bZa (Below.refl w2.heap.size w2) (.cells #[.bool true, .slice A (digs 10000 a).length c] 168)) (.cells #[.bool false, .slice A2 (digs 10000 b).length c2] 168)); have D0 := (Blk.new w2 #[.bool true, .slice A (digs 10000 a).length c] 168).alloc (.cells #[.bool false, .slice A2 (digs 10000 b).length c2] 168); have D1 := Blk.new (w2.alloc (.cells #[.bool true, .slice A (digs 10000 a).length c] 168)) #[.bool false, .slice A2 (digs 10000 b).length c2] 168; rw [World.size_alloc] at D1; rw [hWB] at hB RU RV D0 D1; have c00 := D0.cell 0; have c01 := D0.cell 1; have c10 := D1.cell 0; have c11 := D1.cell 1) | (go_at_call 111; refine (OV _ _ _ RU RV).mono ?_; clear OV; rintro e w3 ⟨v1, v3, rfl, hq, hr3, hb3⟩; have HQ := Aside0.mk hq; have HR := Aside0.mk hr3; obtain ⟨A3, c3, rfl, -, -⟩ := hq; obtain ⟨A4, c4, rfl, -, -⟩ := hr3; have E0 := D0.below hb3; have E1 := D1.below hb3; have c30 := E0.cell 0; have c31 := E1.cell 0; have c311 := E1.cell 1; have hB3 := bZs hB hb3) | (go_at_call 115; refine (T1 _ _ (hp.below hB3) HQ.out).mono ?_; clear T1; rintro e w5 ⟨rfl, hb5⟩; have hB5 := bZs hB3 hb5; have HR5 := HR.out.below hb5) | (go_at_call 115; refine (T2 _ _ (hp.below hB5) HR5).mono ?_; rintro e w6 ⟨rfl, hb6⟩; have hB6 := bZs hB5 hb6))
 go_ret3
 exact ⟨rfl, hB6⟩
theorem div_tt0 (a b : Nat) (s1 s2 : ByteArray) (z r : Int) (w : World) (hp : Pow w) (l1 : (digs 10000 a).length ≤ 51) (l2 : (digs 10000 b).length ≤ 51) (hb0 : 0 < b) (hr0 : a % b = 0) (hz : sgv false (a / b) = z) (hr : sgv false (0) = r) (fz : fit z) (fr : fit r)
  (V1 : ∀ W, Calls Tryz.prog 110 #[.string s1, .string s2] W fun e w' => ∃ u v, e = .returned (.tuple #[.agg #[.bool true, u], .agg #[.bool true, v], .bool true]) ∧ Rd w' u (digs 10000 a) ∧ Rd w' v (digs 10000 b) ∧ Below W.heap.size W w') :
  Calls Tryz.prog 45 #[.string s1, .string s2] w fun e w' => e = .returned (.tuple #[.string (itx z), .string (itx r), .int .i64 0]) ∧ Below w.heap.size w w' := by
 have hlb : ((digs 10000 b).length == 0) = false := by
  have : 0 < (digs 10000 b).length := by rw [digs_pos (by decide) hb0]; simp
  simp; intro e; rw [e] at this; simp at this
 have OV := fun u v W h h' => int_over u v a b W h h' (by omega) (by omega) hb0
 rw [hr0] at OV
 simp only [digs_zero] at OV
 have T1 := fun u W hp h => sgt_ok false u (a / b) z W hz fz hp h
 have T2 := fun u W hp h => sgt_ok false u (0) r W hr fr hp h
 simp only [digs_zero] at T2
 generalize itx z = oz at *
 generalize itx r = or' at *
 clear hz hr fz fr
 go_enter Tryz.func45, Tryz.ntmps45
 go_wp2_with (first | (go_at_call 110; refine (V1 _).mono ?_; clear V1; rintro e w2 ⟨u, v, rfl, hu, hv, hb2⟩; have HU := Aside0.mk hu; have HV := Aside0.mk hv; obtain ⟨A, c, rfl, -, -⟩ := hu; obtain ⟨A2, c2, rfl, -, -⟩ := hv; obtain ⟨WB, hWB⟩ : ∃ WB, (w2.alloc (.cells #[.bool true, .slice A (digs 10000 a).length c] 168)).alloc (.cells #[.bool true, .slice A2 (digs 10000 b).length c2] 168) = WB := ⟨_, rfl⟩; have hB := bZa (bZa hb2 (.cells #[.bool true, .slice A (digs 10000 a).length c] 168)) (.cells #[.bool true, .slice A2 (digs 10000 b).length c2] 168); have RU := HU.out.below (bZa (bZa (Below.refl w2.heap.size w2) (.cells #[.bool true, .slice A (digs 10000 a).length c] 168)) (.cells #[.bool true, .slice A2 (digs 10000 b).length c2] 168)); have RV := HV.out.below (bZa (bZa (Below.refl w2.heap.size w2) (.cells #[.bool true, .slice A (digs 10000 a).length c] 168)) (.cells #[.bool true, .slice A2 (digs 10000 b).length c2] 168)); have D0 := (Blk.new w2 #[.bool true, .slice A (digs 10000 a).length c] 168).alloc (.cells #[.bool true, .slice A2 (digs 10000 b).length c2] 168); have D1 := Blk.new (w2.alloc (.cells #[.bool true, .slice A (digs 10000 a).length c] 168)) #[.bool true, .slice A2 (digs 10000 b).length c2] 168; rw [World.size_alloc] at D1; rw [hWB] at hB RU RV D0 D1; have c00 := D0.cell 0; have c01 := D0.cell 1; have c10 := D1.cell 0; have c11 := D1.cell 1) | (go_at_call 111; refine (OV _ _ _ RU RV).mono ?_; clear OV; rintro e w3 ⟨v1, v3, rfl, hq, hr3, hb3⟩; have HQ := Aside0.mk hq; have HR := Aside0.mk hr3; obtain ⟨A3, c3, rfl, -, -⟩ := hq; obtain ⟨A4, c4, rfl, -, -⟩ := hr3; have E0 := D0.below hb3; have E1 := D1.below hb3; have c30 := E0.cell 0; have c31 := E1.cell 0; have c311 := E1.cell 1; have hB3 := bZs hB hb3) | (go_at_call 115; refine (T1 _ _ (hp.below hB3) HQ.out).mono ?_; clear T1; rintro e w5 ⟨rfl, hb5⟩; have hB5 := bZs hB3 hb5; have HR5 := HR.out.below hb5) | (go_at_call 115; refine (T2 _ _ (hp.below hB5) HR5).mono ?_; rintro e w6 ⟨rfl, hb6⟩; have hB6 := bZs hB5 hb6))
 go_ret3
 exact ⟨rfl, hB6⟩
end Go.Proofs.YtociicfjhgfgpaaGreatDoor

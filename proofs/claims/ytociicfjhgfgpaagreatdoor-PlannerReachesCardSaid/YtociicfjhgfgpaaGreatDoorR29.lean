/- region: Rectangle, Disc: the walks. -/
import Derived.Test.YtociicfjhgfgpaaGreatDoorR28
set_option linter.unusedVariables false
set_option linter.unusedSimpArgs false
set_option maxHeartbeats 16000000
set_option maxRecDepth 100000
namespace Go.Proofs.YtociicfjhgfgpaaGreatDoor
open Go.RowKit Go.Shelf Go.Lib Go.Proofs.YtociicfjhgfgpaaGreatDoorW.PrintWords
theorem own_blk {α : Type} {n : Nat} {enc : α → List Value} {hl : ∀ x, (enc x).length = n} {h1 : ∀ x, ∀ u ∈ enc x, u.oneCell' = true} {w : World} {g base : Nat} {t : TypeId} {cs : Array Value} (xs : List α) (hk : Blk w g cs t) (hc : cs.toList = xs.flatMap enc) (hb : base ≤ g) (hm : xs.length ≤ 1000) :
  OwnK (flat n enc hl h1) t w base (.slice (some ⟨g, 0, none⟩) xs.length xs.length) xs := by
 have hlen : (xs.flatMap enc).length = xs.length * n := by
  clear hc hm
  induction xs with
  | nil => simp
  | cons x xs ih => rw [List.flatMap_cons, List.length_append, hl, ih, List.length_cons, Nat.succ_mul, Nat.add_comm]
 have hget : ∀ (ys : List α) (j : Nat) (p : α), ys[j]? = some p → ((ys.flatMap enc).drop (j * n)).take n = enc p := by
  intro ys
  induction ys with
  | nil => intro j p h; simp at h
  | cons y ys ih =>
   intro j p h
   rw [List.flatMap_cons]
   cases j with
   | zero =>
    have : y = p := by simpa using h
    subst this
    rw [Nat.zero_mul, List.drop_zero, List.take_append_of_le_length (by rw [hl]; exact Nat.le_refl _), List.take_of_length_le (by rw [hl]; exact Nat.le_refl _)]
   | succ j =>
    have := ih j p (by simpa using h)
    rw [Nat.succ_mul, Nat.add_comm (j * n) n, ← List.drop_drop, List.drop_append_of_le_length (by rw [hl]; exact Nat.le_refl _), show (enc y).drop n = [] from List.drop_of_length_le (by rw [hl]; exact Nat.le_refl _), List.nil_append]
    exact this
 refine ⟨fun _ _ => trivial, cs.toList, ⟨by rw [hc, hlen]; rfl, .inr ⟨g, xs.length, cs, rfl, hb, hk, Nat.le_refl _, Nat.le_trans hm (by decide), ?_, ?_⟩⟩, by rw [hc]; exact hlen, fun j p hj => ?_⟩
 ·rw [← Array.length_toList, hc, hlen]
  rfl
 ·rw [List.take_of_length_le]
  rw [hc, hlen]
  exact Nat.le_refl _
 ·show ((cs.toList.drop (j * n)).take n) = enc p
  rw [hc]
  exact hget xs j p hj
theorem txt_0 : itx (0 : Rat).num = ⟨#[48]⟩ ∧ itx ((0 : Rat).den : Int) = ⟨#[49]⟩ := by
 have := rv_zero
 unfold rv at this
 simpa using this
theorem txt_1 : itx (1 : Rat).num = ⟨#[49]⟩ ∧ itx ((1 : Rat).den : Int) = ⟨#[49]⟩ := by
 have := rv_one
 unfold rv at this
 simpa using this
theorem txt_m : itx (-1 : Rat).num = ⟨#[45, 49]⟩ ∧ itx ((-1 : Rat).den : Int) = ⟨#[49]⟩ := by
 have := rv_mone
 unfold rv at this
 simpa using this
theorem cmpR_lt {a b : Rat} (h : a < b) : cmpR a b = -1 := by unfold cmpR; rw [if_pos h]
theorem cmpR_gt {a b : Rat} (h : b < a) : cmpR a b = 1 := by
 unfold cmpR
 rw [if_neg (fun h2 => by grind), if_neg (fun h2 => by subst h2; grind)]
theorem rg_Rectangle (x0 y0 x1 y1 : Rat) (w : World) (hp : Pow w) (h0 : Sq x0) (h1 : Sq y0) (h2 : Sq x1) (h3 : Sq y1) (hx : x0 < x1) (hy : y0 < y1) :
  Calls Tryz.prog 88 #[rv x0, rv y0, rv x1, rv y1] w fun e w' => ∃ v, e = .returned (.tuple #[v, .int .i64 0]) ∧ OwnR w' w.heap.size v (rectR x0 y0 x1 y1) ∧ Below w.heap.size w w' := by
 have F := fun A n W hp hq hc => rg_fracs A n [x0, y0, x1, y1] W hp hq hc (fun q hq => by
  simp only [List.mem_cons, List.not_mem_nil, or_false] at hq
  rcases hq with rfl | rfl | rfl | rfl
  ·exact h0
  ·exact h1
  ·exact h2
  ·exact h3)
 have HC := fun (W : World) (g : Nat) (hk : Blk W g #[.string (itx x0.num), .string (itx x0.den), .string (itx y0.num), .string (itx y0.den), .string (itx x1.num), .string (itx x1.den), .string (itx y1.num), .string (itx y1.den)] 25) => flat_blk (n := 2) (enc := encQ) (hl := fun _ => rfl) (h1 := fun x u hu => by simp [encQ] at hu; rcases hu with rfl | rfl <;> rfl) [x0, y0, x1, y1] hk rfl (by simp)
 have C1 := fun W hp => rat_Compare x0 x1 W hp h0 h2
 have C2 := fun W hp => rat_Compare y0 y1 W hp h1 h3
 rw [cmpR_lt hx] at C1
 rw [cmpR_lt hy] at C2
 have N1 := fun g W hp hk => rg_neg g x0 W hp hk h0
 have N2 := fun g W hp hk => rg_neg g y0 W hp hk h1
 have IN : ∀ g A W, Blk W g #[.bool false] 154 → Calls Tryz.prog 152 #[.pointer (some ⟨g, 0, none⟩), .slice A 4 4] W fun e w' => ∃ n, e = .returned (.tuple #[.agg #[.slice A 4 4, n], .int .i64 0]) ∧ OwnK kNd 93 w' W.heap.size n (rectR x0 y0 x1 y1).2 ∧ Below W.heap.size W w' := fun g A W hk => by
  rw [rectR_nodes]
  exact rg_inter g A 4 (rectR x0 y0 x1 y1).1 W hk (by simp [rectR]) (by simp [rectR])
 have OW : ∀ (W : World) (g base : Nat), Blk W g #[.int .i64 1, .string ⟨#[45, 49]⟩, .string ⟨#[49]⟩, .string ⟨#[48]⟩, .string ⟨#[49]⟩, .string (itx (-x0).num), .string (itx ((-x0).den : Int)), .int .i64 1, .string ⟨#[49]⟩, .string ⟨#[49]⟩, .string ⟨#[48]⟩, .string ⟨#[49]⟩, .string (itx x1.num), .string (itx (x1.den : Int)), .int .i64 1, .string ⟨#[48]⟩, .string ⟨#[49]⟩, .string ⟨#[45, 49]⟩, .string ⟨#[49]⟩, .string (itx (-y0).num), .string (itx ((-y0).den : Int)), .int .i64 1, .string ⟨#[48]⟩, .string ⟨#[49]⟩, .string ⟨#[49]⟩, .string ⟨#[49]⟩, .string (itx y1.num), .string (itx (y1.den : Int))] 91 → base ≤ g → OwnK kCv 91 W base (.slice (some ⟨g, 0, none⟩) 4 4) (rectR x0 y0 x1 y1).1 := fun W g base hk hb => by
  refine own_blk (rectR x0 y0 x1 y1).1 hk ?_ hb (by simp [rectR])
  simp only [rectR, List.flatMap_cons, List.flatMap_nil, encC, txt_0.1, txt_0.2, txt_1.1, txt_1.2, txt_m.1, txt_m.2, List.append_nil, List.cons_append, List.nil_append]
 obtain ⟨RL, hRL⟩ : ∃ r, rectR x0 y0 x1 y1 = r := ⟨_, rfl⟩
 rw [hRL] at OW IN ⊢
 clear hRL hx hy h0 h1 h2 h3
 unfold rv at *
 generalize itx x0.num = a1 at *
 generalize itx (x0.den : Int) = a2 at *
 generalize itx y0.num = b1 at *
 generalize itx (y0.den : Int) = b2 at *
 generalize itx x1.num = c1 at *
 generalize itx (x1.den : Int) = c2 at *
 generalize itx y1.num = d1 at *
 generalize itx (y1.den : Int) = d2 at *
 generalize itx (-x0).num = n1 at *
 generalize itx ((-x0).den : Int) = n2 at *
 generalize itx (-y0).num = m1 at *
 generalize itx ((-y0).den : Int) = m2 at *
 obtain ⟨hB0, k0, k1, k2, k3, k4, k5⟩ := news6 w #[.string a1, .string a2] 25 #[.string b1, .string b2] 25 #[.string c1, .string c2] 25 #[.string d1, .string d2] 25 #[.slice none 0 0, .slice none 0 0] 42 #[.bool false] 154
 have Wh1 := fun W => rg_whole ⟨#[49]⟩ W
 have Wh2 := fun W => rg_whole ⟨#[45, 49]⟩ W
 have Wh3 := fun W => rg_whole ⟨#[48]⟩ W
 have HH := fun a1 a2 b1 b2 c1 c2 W => rg_half a1 a2 b1 b2 c1 c2 W
 have hle5 : w.heap.size ≤ w.heap.size + 5 := Nat.le_add_right _ _
 have ne0 : w.heap.size ≠ w.heap.size + 5 := by omega
 have ne1 : w.heap.size + 1 ≠ w.heap.size + 5 := by omega
 have ne2 : w.heap.size + 2 ≠ w.heap.size + 5 := by omega
 have ne3 : w.heap.size + 3 ≠ w.heap.size + 5 := by omega
 have ne4 : w.heap.size + 4 ≠ w.heap.size + 5 := by omega
 have FC := fun (g : Nat) (W : World) (hp : Pow W) (hk : Blk W g #[.string a1, .string a2, .string b1, .string b2, .string c1, .string c2, .string d1, .string d2] 25) => F (some ⟨g, 0, none⟩) 4 W hp (HC W g hk) (by simp)
 have BK : Blk (((((((w.alloc (.cells #[.string a1, .string a2] 25)).alloc (.cells #[.string b1, .string b2] 25)).alloc (.cells #[.string c1, .string c2] 25)).alloc (.cells #[.string d1, .string d2] 25)).alloc (.cells #[.slice none 0 0, .slice none 0 0] 42)).alloc (.cells #[.bool false] 154)).alloc (.cells #[.string a1, .string a2, .string b1, .string b2, .string c1, .string c2, .string d1, .string d2] 25)) (w.heap.size + 1 + 1 + 1 + 1 + 1 + 1) #[.string a1, .string a2, .string b1, .string b2, .string c1, .string c2, .string d1, .string d2] 25 := by
  have := Blk.new ((((((w.alloc (.cells #[.string a1, .string a2] 25)).alloc (.cells #[.string b1, .string b2] 25)).alloc (.cells #[.string c1, .string c2] 25)).alloc (.cells #[.string d1, .string d2] 25)).alloc (.cells #[.slice none 0 0, .slice none 0 0] 42)).alloc (.cells #[.bool false] 154)) #[.string a1, .string a2, .string b1, .string b2, .string c1, .string c2, .string d1, .string d2] 25
  rwa [World.size_alloc, World.size_alloc, World.size_alloc, World.size_alloc, World.size_alloc, World.size_alloc] at this
 clear F HC
 go_enter Tryz.func88, Tryz.ntmps88
 go_wp2_with (first | (go_at_call 41; refine (FC _ _ (hp.below (bZa hB0 _)) BK).mono ?_; clear FC BK; rintro e w2 ⟨rfl, hb2⟩; have hB2 := bZs (bZa hB0 (.cells #[.string a1, .string a2, .string b1, .string b2, .string c1, .string c2, .string d1, .string d2] 25)) hb2; have K0 := (k0.alloc (.cells #[.string a1, .string a2, .string b1, .string b2, .string c1, .string c2, .string d1, .string d2] 25)).below hb2; have K1 := (k1.alloc (.cells #[.string a1, .string a2, .string b1, .string b2, .string c1, .string c2, .string d1, .string d2] 25)).below hb2; have K2 := (k2.alloc (.cells #[.string a1, .string a2, .string b1, .string b2, .string c1, .string c2, .string d1, .string d2] 25)).below hb2; have K3 := (k3.alloc (.cells #[.string a1, .string a2, .string b1, .string b2, .string c1, .string c2, .string d1, .string d2] 25)).below hb2; have K4 := (k4.alloc (.cells #[.string a1, .string a2, .string b1, .string b2, .string c1, .string c2, .string d1, .string d2] 25)).below hb2; have K5 := (k5.alloc (.cells #[.string a1, .string a2, .string b1, .string b2, .string c1, .string c2, .string d1, .string d2] 25)).below hb2; obtain ⟨p0, p1, _, _⟩ := K0.two; obtain ⟨p2, p3, _, _⟩ := K2.two) | (go_at_call 18; refine (C1 _ (hp.below hB2)).mono ?_; clear C1; rintro e w3 ⟨rfl, hb3⟩; have hB3 := bZs hB2 hb3; have L0 := K0.below hb3; have L1 := K1.below hb3; have L2 := K2.below hb3; have L3 := K3.below hb3; have L4 := K4.below hb3; have L5 := K5.below hb3; obtain ⟨p4, p5, _, _⟩ := L1.two; obtain ⟨p6, p7, _, _⟩ := L3.two) | (go_at_call 18; refine (C2 _ (hp.below hB3)).mono ?_; clear C2; rintro e w4 ⟨rfl, hb4⟩; have hB4 := bZe (g := w.heap.size + 5) (j := 0) (v := .bool false) (bZs hB3 hb4) hle5; have M0 := L0.below hb4; have M1 := L1.below hb4; have M2 := L2.below hb4; have M3 := L3.below hb4; have M4 := L4.below hb4; have M5 := L5.below hb4; have p8 := M5.cell 0; have p9 := M5.frozen 0; have N0 := M0.far (p := ⟨w.heap.size + 5, 0, none⟩) ne0 (.bool false); have N1 := M1.far (p := ⟨w.heap.size + 5, 0, none⟩) ne1 (.bool false); have N2 := M2.far (p := ⟨w.heap.size + 5, 0, none⟩) ne2 (.bool false); have N3 := M3.far (p := ⟨w.heap.size + 5, 0, none⟩) ne3 (.bool false); have N4 := M4.far (p := ⟨w.heap.size + 5, 0, none⟩) ne4 (.bool false); have N5 : Blk _ _ #[.bool false] 154 := M5.set 0 (.bool false)) | (go_at_call 151; refine (Wh1 _).mono ?_; clear Wh1; rintro e w5 ⟨rfl, hb5⟩; have hB5 := bZs hB4 hb5; have O0 := N0.below hb5; have O1 := N1.below hb5; have O2 := N2.below hb5; have O3 := N3.below hb5; have O4 := N4.below hb5; have O5 := N5.below hb5) | (go_at_call 151; refine (Wh2 _).mono ?_; clear Wh2; rintro e w6 ⟨rfl, hb6⟩; have hB6 := bZs hB5 hb6; have P0 := O0.below hb6; have P1 := O1.below hb6; have P2 := O2.below hb6; have P3 := O3.below hb6; have P4 := O4.below hb6; have P5 := O5.below hb6) | (go_at_call 151; refine (Wh3 _).mono ?_; clear Wh3; rintro e w7 ⟨rfl, hb7⟩; have hB7 := bZs hB6 hb7; have R0 := P0.below hb7; have R1 := P1.below hb7; have R2 := P2.below hb7; have R3 := P3.below hb7; have R4 := P4.below hb7; have R5 := P5.below hb7))
 have B8 : Below w7.heap.size w7 (((w7.alloc (.cells #[.string ⟨#[49]⟩, .string ⟨#[49]⟩] 25)).alloc (.cells #[.string ⟨#[45, 49]⟩, .string ⟨#[49]⟩] 25)).alloc (.cells #[.string ⟨#[48]⟩, .string ⟨#[49]⟩] 25)) := bZa (bZa (bZa (Below.refl _ _) _) _) _
 have hB8 := bZd (bZs hB7 B8)
 have T0 := (((Blk.new w7 #[.string ⟨#[49]⟩, .string ⟨#[49]⟩] 25).alloc (.cells #[.string ⟨#[45, 49]⟩, .string ⟨#[49]⟩] 25)).alloc (.cells #[.string ⟨#[48]⟩, .string ⟨#[49]⟩] 25)).drew
 have T1 : Blk (((w7.alloc (.cells #[.string ⟨#[49]⟩, .string ⟨#[49]⟩] 25)).alloc (.cells #[.string ⟨#[45, 49]⟩, .string ⟨#[49]⟩] 25)).alloc (.cells #[.string ⟨#[48]⟩, .string ⟨#[49]⟩] 25)).drew (w7.heap.size + 1) #[.string ⟨#[45, 49]⟩, .string ⟨#[49]⟩] 25 := by
  have := ((Blk.new (w7.alloc (.cells #[.string ⟨#[49]⟩, .string ⟨#[49]⟩] 25)) #[.string ⟨#[45, 49]⟩, .string ⟨#[49]⟩] 25).alloc (.cells #[.string ⟨#[48]⟩, .string ⟨#[49]⟩] 25)).drew
  rwa [World.size_alloc] at this
 have T2 : Blk (((w7.alloc (.cells #[.string ⟨#[49]⟩, .string ⟨#[49]⟩] 25)).alloc (.cells #[.string ⟨#[45, 49]⟩, .string ⟨#[49]⟩] 25)).alloc (.cells #[.string ⟨#[48]⟩, .string ⟨#[49]⟩] 25)).drew (w7.heap.size + 2) #[.string ⟨#[48]⟩, .string ⟨#[49]⟩] 25 := by
  have := (Blk.new ((w7.alloc (.cells #[.string ⟨#[49]⟩, .string ⟨#[49]⟩] 25)).alloc (.cells #[.string ⟨#[45, 49]⟩, .string ⟨#[49]⟩] 25)) #[.string ⟨#[48]⟩, .string ⟨#[49]⟩] 25).drew
  rwa [World.size_alloc, World.size_alloc] at this
 have S0 := (R0.below B8).drew
 have S1 := (R1.below B8).drew
 have S2 := (R2.below B8).drew
 have S3 := (R3.below B8).drew
 have S4 := (R4.below B8).drew
 have S5 := (R5.below B8).drew
 generalize (((w7.alloc (.cells #[.string ⟨#[49]⟩, .string ⟨#[49]⟩] 25)).alloc (.cells #[.string ⟨#[45, 49]⟩, .string ⟨#[49]⟩] 25)).alloc (.cells #[.string ⟨#[48]⟩, .string ⟨#[49]⟩] 25)) = w8 at *
 clear B8 hB0 hB2 hB3 hB4 hB5 hB6 hB7 hb2 hb3 hb4 hb5 hb6 hb7 k0 k1 k2 k3 k4 k5 K0 K1 K2 K3 K4 K5 L0 L1 L2 L3 L4 L5 M0 M1 M2 M3 M4 M5 N0 N1 N2 N3 N4 N5 O0 O1 O2 O3 O4 O5 P0 P1 P2 P3 P4 P5 R0 R1 R2 R3 R4 R5 p0 p1 p2 p3 p4 p5 p6 p7 p8 p9
 refine rZu (fun i => i == 22 || i == 23 || i == 24 || i == 25 || i == 26) (fun W => Below w8.drew.heap.size w8.drew W) (by kernel_rfl) (cZb _) (Below.refl _ _) ?_
 apply wpU_e 0 42
 refine wpU_f 1 43 (h1 := by intro W hW; have e0 := (T1.below hW).cell 0; have e1 := (T1.below hW).cell 1; go_simp; try rfl) (h3 := ?_)
 refine wpU_f 2 44 (h1 := by intro W hW; have e0 := (T2.below hW).cell 0; have e1 := (T2.below hW).cell 1; go_simp; try rfl) (h3 := ?_)
 apply wpU_e 3 45
 refine wpU_f 4 46 (h1 := by intro W hW; have e0 := (S0.below hW).cell 0; have e1 := (S0.below hW).cell 1; go_simp; try rfl) (h3 := ?_)
 refine wpU_f 7 49 (h1 := by intro W hW; have e0 := (T0.below hW).cell 0; have e1 := (T0.below hW).cell 1; go_simp; try rfl) (h3 := ?_)
 refine wpU_f 8 50 (h1 := by intro W hW; have e0 := (T2.below hW).cell 0; have e1 := (T2.below hW).cell 1; go_simp; try rfl) (h3 := ?_)
 refine wpU_f 9 51 (h1 := by intro W hW; have e0 := (S2.below hW).cell 0; have e1 := (S2.below hW).cell 1; go_simp; try rfl) (h3 := ?_)
 refine wpU_f 11 53 (h1 := by intro W hW; have e0 := (T2.below hW).cell 0; have e1 := (T2.below hW).cell 1; go_simp; try rfl) (h3 := ?_)
 refine wpU_f 12 54 (h1 := by intro W hW; have e0 := (T1.below hW).cell 0; have e1 := (T1.below hW).cell 1; go_simp; try rfl) (h3 := ?_)
 apply wpU_e 13 55
 refine wpU_f 14 56 (h1 := by intro W hW; have e0 := (S1.below hW).cell 0; have e1 := (S1.below hW).cell 1; go_simp; try rfl) (h3 := ?_)
 refine wpU_f 17 59 (h1 := by intro W hW; have e0 := (T2.below hW).cell 0; have e1 := (T2.below hW).cell 1; go_simp; try rfl) (h3 := ?_)
 refine wpU_f 18 60 (h1 := by intro W hW; have e0 := (T0.below hW).cell 0; have e1 := (T0.below hW).cell 1; go_simp; try rfl) (h3 := ?_)
 refine wpU_f 19 61 (h1 := by intro W hW; have e0 := (S3.below hW).cell 0; have e1 := (S3.below hW).cell 1; go_simp; try rfl) (h3 := ?_)
 refine wpU_ca 5 47 Tryz.func154 (fun W hW => N1 (w.heap.size + 5) W (hp.below (bZs hB8 hW)) (S5.below hW)) ?_
 refine wpU_ac ?_
 refine wpU_ca (v := .agg #[.int .i64 1, .string ⟨#[45, 49]⟩, .string ⟨#[49]⟩, .string ⟨#[48]⟩, .string ⟨#[49]⟩, .string n1, .string n2]) (args := #[.agg #[.string ⟨#[45, 49]⟩, .string ⟨#[49]⟩], .agg #[.string ⟨#[48]⟩, .string ⟨#[49]⟩], .agg #[.string n1, .string n2]]) 6 48 Tryz.func153 (fun W hW => HH _ _ _ _ _ _ W) ?_
 refine wpU_ac ?_
 refine wpU_ca (v := .agg #[.int .i64 1, .string ⟨#[49]⟩, .string ⟨#[49]⟩, .string ⟨#[48]⟩, .string ⟨#[49]⟩, .string c1, .string c2]) (args := #[.agg #[.string ⟨#[49]⟩, .string ⟨#[49]⟩], .agg #[.string ⟨#[48]⟩, .string ⟨#[49]⟩], .agg #[.string c1, .string c2]]) 10 52 Tryz.func153 (fun W hW => HH _ _ _ _ _ _ W) ?_
 refine wpU_ac ?_
 refine wpU_ca 15 57 Tryz.func154 (fun W hW => N2 (w.heap.size + 5) W (hp.below (bZs hB8 hW)) (S5.below hW)) ?_
 refine wpU_ac ?_
 refine wpU_ca (v := .agg #[.int .i64 1, .string ⟨#[48]⟩, .string ⟨#[49]⟩, .string ⟨#[45, 49]⟩, .string ⟨#[49]⟩, .string m1, .string m2]) (args := #[.agg #[.string ⟨#[48]⟩, .string ⟨#[49]⟩], .agg #[.string ⟨#[45, 49]⟩, .string ⟨#[49]⟩], .agg #[.string m1, .string m2]]) 16 58 Tryz.func153 (fun W hW => HH _ _ _ _ _ _ W) ?_
 refine wpU_ac ?_
 refine wpU_ca (v := .agg #[.int .i64 1, .string ⟨#[48]⟩, .string ⟨#[49]⟩, .string ⟨#[49]⟩, .string ⟨#[49]⟩, .string d1, .string d2]) (args := #[.agg #[.string ⟨#[48]⟩, .string ⟨#[49]⟩], .agg #[.string ⟨#[49]⟩, .string ⟨#[49]⟩], .agg #[.string d1, .string d2]]) 20 62 Tryz.func153 (fun W hW => HH _ _ _ _ _ _ W) ?_
 refine wpU_ac ?_
 refine wpU_new (i := 21) (d := some 63) rfl rfl (by kernel_rfl) (by rfl) ⟨fun n => .slice (some ⟨n, 0, none⟩) 4 4, #[.int .i64 1, .string ⟨#[45, 49]⟩, .string ⟨#[49]⟩, .string ⟨#[48]⟩, .string ⟨#[49]⟩, .string n1, .string n2, .int .i64 1, .string ⟨#[49]⟩, .string ⟨#[49]⟩, .string ⟨#[48]⟩, .string ⟨#[49]⟩, .string c1, .string c2, .int .i64 1, .string ⟨#[48]⟩, .string ⟨#[49]⟩, .string ⟨#[45, 49]⟩, .string ⟨#[49]⟩, .string m1, .string m2, .int .i64 1, .string ⟨#[48]⟩, .string ⟨#[49]⟩, .string ⟨#[49]⟩, .string ⟨#[49]⟩, .string d1, .string d2], 91, fun W => ?_, fun g0 hg0 => ?_⟩
 ·go_simp
  try rfl
 refine wpU_late (by kernel_rfl) (fun W1 hW1 => ?_)
 obtain ⟨hbW, kG⟩ := hW1
 have hgb : w.heap.size ≤ g0 := by
  obtain ⟨Wa, h, e⟩ := hg0
  rw [e]
  exact Nat.le_trans (bZz hB8) (bZz h)
 clear hg0
 have hB9 := bZs hB8 hbW
 have Z4 := S4.below hbW
 have IN1 := IN (w.heap.size + 5) (some ⟨g0, 0, none⟩) W1 (S5.below hbW)
 have OW1 := OW W1 g0 w.heap.size kG hgb
 clear IN OW
 refine wpAny_step1 (i := 22) (by kernel_rfl) rfl (by rfl) (fun K hK => ?_)
 go_simp
 go_at_call 152
 refine IN1.mono ?_
 rintro e w9 ⟨nv, rfl, HN, hb9⟩
 refine hK _ _ ?_
 clear hK K IN1
 obtain ⟨NA, nc, en⟩ := Kd.R_slice HN
 subst en
 have Z5 := Z4.below hb9
 have hB10 := bZs hB9 hb9
 refine wpAny_of_C (C := fun _ => True) (ex := fun i => i == 25 || i == 26) _ _ _ _ ?_
 refine wZt (i := 23) rfl (by kernel_rfl) (by kernel_rfl) (by kernel_rfl) (by kernel_rfl) (fun _ _ _ _ h => h) trivial (by rfl) ?_
 apply Exists.intro
 refine ⟨fun W hW => ?_, ?_⟩
 ·go_simp
  try rfl
 refine wZt (i := 24) rfl (by kernel_rfl) (by kernel_rfl) (by kernel_rfl) (by kernel_rfl) (fun _ _ _ _ h => h) trivial (by rfl) ?_
 apply Exists.intro
 refine ⟨fun W hW => ?_, ?_⟩
 ·go_simp
  try rfl
 obtain ⟨r0, r1, q0, q1⟩ := Z5.two
 refine wZs (i := 25) (by kernel_rfl) rfl (fun K hK => ?_)
 go_simp
 refine hK _ _ (fun _ => trivial) ?_
 clear hK K
 refine wZs (i := 26) (by kernel_rfl) rfl (fun K hK => ?_)
 go_simp
 refine hK _ _ (fun _ => trivial) ?_
 clear hK K
 refine wpAnyC_done (by kernel_rfl) ?_ _
 go_wp2
 have C2 := ((OW1.below hb9).set Z5 (by decide) 0 (.slice (some ⟨g0, 0, none⟩) 4 4)).set (Z5.set 0 _) (by decide) 1 (.slice NA RL.2.length nc)
 have N2 := Kd.R_lower ((HN.set Z5 (by decide) 0 (.slice (some ⟨g0, 0, none⟩) 4 4)).set (Z5.set 0 _) (by decide) 1 (.slice NA RL.2.length nc)) (bZz hB9)
 refine bodyPost_ret (results_ct rfl _ _ (w.heap.size + 4) 42 #[.slice (some ⟨g0, 0, none⟩) 4 4, .slice NA RL.2.length nc] (0, 0) _ rfl ((Z5.set 0 _).set 1 _) Tryz.underlying42 rfl (by kernel_rfl)) rfl ?_
 exact ⟨_, rfl, ⟨_, _, rfl, C2, N2⟩, bZe (bZe hB10 (by omega)) (by omega)⟩
theorem rg_Disc (x y r : Rat) (w : World) (hp : Pow w) (h0 : Sq x) (h1 : Sq y) (h2 : Sq r) (hr : 0 < r) :
  Calls Tryz.prog 89 #[rv x, rv y, rv r] w fun e w' => ∃ v, e = .returned (.tuple #[v, .int .i64 0]) ∧ OwnR w' w.heap.size v (discR x y r) ∧ Below w.heap.size w w' := by
 have F := fun A n W hp hq hc => rg_fracs A n [x, y, r] W hp hq hc (fun q hq => by
  simp only [List.mem_cons, List.not_mem_nil, or_false] at hq
  rcases hq with rfl | rfl | rfl
  ·exact h0
  ·exact h1
  ·exact h2)
 have HC := fun (W : World) (g : Nat) (hk : Blk W g #[.string (itx x.num), .string (itx x.den), .string (itx y.num), .string (itx y.den), .string (itx r.num), .string (itx r.den)] 25) => flat_blk (n := 2) (enc := encQ) (hl := fun _ => rfl) (h1 := fun x u hu => by simp [encQ] at hu; rcases hu with rfl | rfl <;> rfl) [x, y, r] hk rfl (by simp)
 have C1 := fun W hp => rg_sign r W hp h2
 rw [cmpR_gt hr] at C1
 have N1 := fun g W hp hk => rg_mul g r r W hp hk h2 h2
 have IN : ∀ g A W, Blk W g #[.bool false] 154 → Calls Tryz.prog 152 #[.pointer (some ⟨g, 0, none⟩), .slice A 1 1] W fun e w' => ∃ n, e = .returned (.tuple #[.agg #[.slice A 1 1, n], .int .i64 0]) ∧ OwnK kNd 93 w' W.heap.size n (discR x y r).2 ∧ Below W.heap.size W w' := fun g A W hk => by
  rw [discR_nodes]
  exact rg_inter g A 1 (discR x y r).1 W hk (by simp [discR]) (by simp [discR])
 have OW : ∀ (W : World) (g base : Nat), Blk W g #[.int .i64 2, .string (itx x.num), .string (itx (x.den : Int)), .string (itx y.num), .string (itx (y.den : Int)), .string (itx (r * r).num), .string (itx ((r * r).den : Int))] 91 → base ≤ g → OwnK kCv 91 W base (.slice (some ⟨g, 0, none⟩) 1 1) (discR x y r).1 := fun W g base hk hb => by
  refine own_blk (discR x y r).1 hk ?_ hb (by simp [discR])
  simp only [discR, List.flatMap_cons, List.flatMap_nil, encC, List.append_nil, List.cons_append, List.nil_append]
 obtain ⟨RL, hRL⟩ : ∃ s, discR x y r = s := ⟨_, rfl⟩
 rw [hRL] at OW IN ⊢
 clear hRL hr h0 h1 h2
 unfold rv at *
 generalize itx x.num = a1 at *
 generalize itx (x.den : Int) = a2 at *
 generalize itx y.num = b1 at *
 generalize itx (y.den : Int) = b2 at *
 generalize itx (r * r).num = n1 at *
 generalize itx ((r * r).den : Int) = n2 at *
 generalize itx r.num = c1 at *
 generalize itx (r.den : Int) = c2 at *
 obtain ⟨hB0, k0, k1, k2, k3, k4⟩ := news5 w #[.string a1, .string a2] 25 #[.string b1, .string b2] 25 #[.string c1, .string c2] 25 #[.slice none 0 0, .slice none 0 0] 42 #[.bool false] 154
 have hle5 : w.heap.size ≤ w.heap.size + 4 := Nat.le_add_right _ _
 have ne0 : w.heap.size ≠ w.heap.size + 4 := by omega
 have ne1 : w.heap.size + 1 ≠ w.heap.size + 4 := by omega
 have ne2 : w.heap.size + 2 ≠ w.heap.size + 4 := by omega
 have ne3 : w.heap.size + 3 ≠ w.heap.size + 4 := by omega
 have FC := fun (g : Nat) (W : World) (hp : Pow W) (hk : Blk W g #[.string a1, .string a2, .string b1, .string b2, .string c1, .string c2] 25) => F (some ⟨g, 0, none⟩) 3 W hp (HC W g hk) (by simp)
 have BK : Blk ((((((w.alloc (.cells #[.string a1, .string a2] 25)).alloc (.cells #[.string b1, .string b2] 25)).alloc (.cells #[.string c1, .string c2] 25)).alloc (.cells #[.slice none 0 0, .slice none 0 0] 42)).alloc (.cells #[.bool false] 154)).alloc (.cells #[.string a1, .string a2, .string b1, .string b2, .string c1, .string c2] 25)) (w.heap.size + 1 + 1 + 1 + 1 + 1) #[.string a1, .string a2, .string b1, .string b2, .string c1, .string c2] 25 := by
  have := Blk.new (((((w.alloc (.cells #[.string a1, .string a2] 25)).alloc (.cells #[.string b1, .string b2] 25)).alloc (.cells #[.string c1, .string c2] 25)).alloc (.cells #[.slice none 0 0, .slice none 0 0] 42)).alloc (.cells #[.bool false] 154)) #[.string a1, .string a2, .string b1, .string b2, .string c1, .string c2] 25
  rwa [World.size_alloc, World.size_alloc, World.size_alloc, World.size_alloc, World.size_alloc] at this
 clear F HC
 go_enter Tryz.func89, Tryz.ntmps89
 go_wp2_with (first | (go_at_call 41; refine (FC _ _ (hp.below (bZa hB0 _)) BK).mono ?_; clear FC BK; rintro e w2 ⟨rfl, hb2⟩; have hB2 := bZs (bZa hB0 (.cells #[.string a1, .string a2, .string b1, .string b2, .string c1, .string c2] 25)) hb2; have K0 := (k0.alloc (.cells #[.string a1, .string a2, .string b1, .string b2, .string c1, .string c2] 25)).below hb2; have K1 := (k1.alloc (.cells #[.string a1, .string a2, .string b1, .string b2, .string c1, .string c2] 25)).below hb2; have K2 := (k2.alloc (.cells #[.string a1, .string a2, .string b1, .string b2, .string c1, .string c2] 25)).below hb2; have K3 := (k3.alloc (.cells #[.string a1, .string a2, .string b1, .string b2, .string c1, .string c2] 25)).below hb2; have K4 := (k4.alloc (.cells #[.string a1, .string a2, .string b1, .string b2, .string c1, .string c2] 25)).below hb2; obtain ⟨p0, p1, _, _⟩ := K2.two) | (go_at_call 155; refine (C1 _ (hp.below hB2)).mono ?_; clear C1; rintro e w3 ⟨rfl, hb3⟩; have hB3 := bZe (g := w.heap.size + 4) (j := 0) (v := .bool false) (bZs hB2 hb3) hle5; have L0 := K0.below hb3; have L1 := K1.below hb3; have L2 := K2.below hb3; have L3 := K3.below hb3; have L4 := K4.below hb3; have p8 := L4.cell 0; have p9 := L4.frozen 0; have N0 := L0.far (p := ⟨w.heap.size + 4, 0, none⟩) ne0 (.bool false); have N1 := L1.far (p := ⟨w.heap.size + 4, 0, none⟩) ne1 (.bool false); have N2 := L2.far (p := ⟨w.heap.size + 4, 0, none⟩) ne2 (.bool false); have N3 := L3.far (p := ⟨w.heap.size + 4, 0, none⟩) ne3 (.bool false); have N4 : Blk _ _ #[.bool false] 154 := L4.set 0 (.bool false)))
 have hB8 := bZd hB3
 have S0 := N0.drew
 have S1 := N1.drew
 have S2 := N2.drew
 have S3 := N3.drew
 have S4 := N4.drew
 generalize (w3.setCell ⟨w.heap.size + 4, 0, none⟩ (.bool false)) = w8 at *
 clear hB0 hB2 hB3 hb2 hb3 k0 k1 k2 k3 k4 K0 K1 K2 K3 K4 L0 L1 L2 L3 L4 N0 N1 N2 N3 N4 p0 p1 p8 p9
 refine rZu (fun i => i == 9 || i == 10 || i == 11 || i == 12 || i == 13) (fun W => Below w8.drew.heap.size w8.drew W) (by kernel_rfl) (cZb _) (Below.refl _ _) ?_
 apply wpU_e 0 26
 refine wpU_f 1 27 (h1 := by intro W hW; have e0 := (S0.below hW).cell 0; have e1 := (S0.below hW).cell 1; go_simp; try rfl) (h3 := ?_)
 refine wpU_f 2 28 (h1 := by intro W hW; have e0 := (S1.below hW).cell 0; have e1 := (S1.below hW).cell 1; go_simp; try rfl) (h3 := ?_)
 apply wpU_e 3 29
 refine wpU_f 4 30 (h1 := by intro W hW; have e0 := (S2.below hW).cell 0; have e1 := (S2.below hW).cell 1; go_simp; try rfl) (h3 := ?_)
 refine wpU_f 5 31 (h1 := by intro W hW; have e0 := (S2.below hW).cell 0; have e1 := (S2.below hW).cell 1; go_simp; try rfl) (h3 := ?_)
 refine wpU_ca 6 32 Tryz.func156 (fun W hW => N1 (w.heap.size + 4) W (hp.below (bZs hB8 hW)) (S4.below hW)) ?_
 refine wpU_ac ?_
 apply wpU_e 7 33
 refine wpU_new (i := 8) (d := some 34) rfl rfl (by kernel_rfl) (by rfl) ⟨fun n => .slice (some ⟨n, 0, none⟩) 1 1, #[.int .i64 2, .string a1, .string a2, .string b1, .string b2, .string n1, .string n2], 91, fun W => ?_, fun g0 hg0 => ?_⟩
 ·go_simp
  try rfl
 refine wpU_late (by kernel_rfl) (fun W1 hW1 => ?_)
 obtain ⟨hbW, kG⟩ := hW1
 have hgb : w.heap.size ≤ g0 := by
  obtain ⟨Wa, h, e⟩ := hg0
  rw [e]
  exact Nat.le_trans (bZz hB8) (bZz h)
 clear hg0
 have hB9 := bZs hB8 hbW
 have Z4 := S3.below hbW
 have IN1 := IN (w.heap.size + 4) (some ⟨g0, 0, none⟩) W1 (S4.below hbW)
 have OW1 := OW W1 g0 w.heap.size kG hgb
 clear IN OW
 refine wpAny_step1 (i := 9) (by kernel_rfl) rfl (by rfl) (fun K hK => ?_)
 go_simp
 go_at_call 152
 refine IN1.mono ?_
 rintro e w9 ⟨nv, rfl, HN, hb9⟩
 refine hK _ _ ?_
 clear hK K IN1
 obtain ⟨NA, nc, en⟩ := Kd.R_slice HN
 subst en
 have Z5 := Z4.below hb9
 have hB10 := bZs hB9 hb9
 refine wpAny_of_C (C := fun _ => True) (ex := fun i => i == 12 || i == 13) _ _ _ _ ?_
 refine wZt (i := 10) rfl (by kernel_rfl) (by kernel_rfl) (by kernel_rfl) (by kernel_rfl) (fun _ _ _ _ h => h) trivial (by rfl) ?_
 apply Exists.intro
 refine ⟨fun W hW => ?_, ?_⟩
 ·go_simp
  try rfl
 refine wZt (i := 11) rfl (by kernel_rfl) (by kernel_rfl) (by kernel_rfl) (by kernel_rfl) (fun _ _ _ _ h => h) trivial (by rfl) ?_
 apply Exists.intro
 refine ⟨fun W hW => ?_, ?_⟩
 ·go_simp
  try rfl
 obtain ⟨r0, r1, q0, q1⟩ := Z5.two
 refine wZs (i := 12) (by kernel_rfl) rfl (fun K hK => ?_)
 go_simp
 refine hK _ _ (fun _ => trivial) ?_
 clear hK K
 refine wZs (i := 13) (by kernel_rfl) rfl (fun K hK => ?_)
 go_simp
 refine hK _ _ (fun _ => trivial) ?_
 clear hK K
 refine wpAnyC_done (by kernel_rfl) ?_ _
 go_wp2
 have C2 := ((OW1.below hb9).set Z5 (by decide) 0 (.slice (some ⟨g0, 0, none⟩) 1 1)).set (Z5.set 0 _) (by decide) 1 (.slice NA RL.2.length nc)
 have N2 := Kd.R_lower ((HN.set Z5 (by decide) 0 (.slice (some ⟨g0, 0, none⟩) 1 1)).set (Z5.set 0 _) (by decide) 1 (.slice NA RL.2.length nc)) (bZz hB9)
 refine bodyPost_ret (results_ct rfl _ _ (w.heap.size + 3) 42 #[.slice (some ⟨g0, 0, none⟩) 1 1, .slice NA RL.2.length nc] (0, 0) _ rfl ((Z5.set 0 _).set 1 _) Tryz.underlying42 rfl (by kernel_rfl)) rfl ?_
 exact ⟨_, rfl, ⟨_, _, rfl, C2, N2⟩, bZe (bZe hB10 (by omega)) (by omega)⟩
end Go.Proofs.YtociicfjhgfgpaaGreatDoor

/- region: the values of a formula's nodes: the walks. -/
import Derived.Test.YtociicfjhgfgpaaGreatDoorR25
set_option linter.unusedVariables false
set_option linter.unusedSimpArgs false
set_option maxHeartbeats 8000000
set_option maxRecDepth 100000
namespace Go.Proofs.YtociicfjhgfgpaaGreatDoor
open Go.RowKit Go.Shelf Go.Lib Go.Proofs.YtociicfjhgfgpaaGreatDoorW.PrintWords
theorem rdK_bool {w : World} {v : Value} {bs : List Bool} (h : RdK Kd.bool w v bs) (i : Int) (h0 : 0 ≤ i) (h1 : i < bs.length) : ∃ ad c, v = .slice (some ad) bs.length c ∧ w.cell? (ad.add i.toNat) = some (.bool (bs.getD i.toNat false)) := by
 obtain ⟨A, c, rfl, hc, hr⟩ := h
 obtain ⟨ad, rfl, hx⟩ := Kd.at_bool hr i h0 h1
 exact ⟨ad, c, rfl, hx⟩
theorem rg_leaf (g : Nat) (u v : Value) (bs : List Bool) (p x l r : Int) (w : World) (hk : Blk w g #[u, v] 164) (h : RdK Kd.bool w u bs) (h0 : 0 ≤ x) (h1 : x < bs.length) :
  Calls Tryz.prog 104 #[.pointer (some ⟨g, 0, none⟩), .agg #[.int .i64 p, .int .i64 x, .int .i64 l, .int .i64 r]] w fun e w' => e = .returned (.bool (bs.getD x.toNat false)) ∧ Below w.heap.size w w' := by
 obtain ⟨ad, c, rfl, hx⟩ := rdK_bool h x h0 h1
 generalize bs.getD x.toNat false = bb at *
 obtain ⟨hB0, k0⟩ := news1 w #[.int .i64 p, .int .i64 x, .int .i64 l, .int .i64 r] 93
 have kb := hk.below hB0
 have c0 := pZc hB0 hx
 have i0 : (0 ≤ x) = True := eq_true h0
 have i1 : (x < (bs.length : Int)) = True := eq_true h1
 clear hx h hk
 go_enter Tryz.func104, Tryz.ntmps104
 go_wp2
 generalize hg : w.heap.size = g0 at *
 generalize hw3 : w.alloc (.cells #[.int .i64 p, .int .i64 x, .int .i64 l, .int .i64 r] 93) = w3 at *
 have hB1 := hB0
 refine rZu (fun _ => false) (fun W => Below w3.drew.heap.size w3.drew W) (by kernel_rfl) (cZb _) (Below.refl _ _) ?_
 apply wpU_e 0 5
 apply wpU_e 1 6
 apply wpU_e 2 7
 refine wpU_f 3 8 (h1 := by intro W hW; have e0 := (kb.drew.below hW).cell 0; have e1 := (k0.drew.below hW).cell 1; have e2 := pZc hW (show w3.drew.cell? _ = _ from c0); go_simp; try rfl) (h3 := ?_)
 apply wpU_e 4 9
 refine wpU_f 5 10 (h1 := by intro W hW; have e0 := (kb.drew.below hW).cell 0; have e1 := (k0.drew.below hW).cell 1; have e2 := pZc hW (show w3.drew.cell? _ = _ from c0); go_simp; try rfl) (h3 := ?_)
 refine wpU_f 6 11 (h1 := by intro W hW; have e0 := (kb.drew.below hW).cell 0; have e1 := (k0.drew.below hW).cell 1; have e2 := pZc hW (show w3.drew.cell? _ = _ from c0); go_simp; try rfl) (h3 := ?_)
 refine wpU_f 7 12 (h1 := by intro W hW; have e0 := (kb.drew.below hW).cell 0; have e1 := (k0.drew.below hW).cell 1; have e2 := pZc hW (show w3.drew.cell? _ = _ from c0); go_simp; try rfl) (h3 := ?_)
 apply wpU_e 8 4
 refine wpU_done (by kernel_rfl) (fun W1 hW1 => ?_) _
 go_simp
 go_wp2
 subst hg
 go_ret
 exact ⟨rfl, bZs (bZd hB0) hW1⟩
theorem rg_or (g : Nat) (u v : Value) (bs : List Bool) (p x l r : Int) (w : World) (hk : Blk w g #[u, v] 164) (h : RdK Kd.bool w v bs) (h0 : 0 ≤ l) (h1 : l < bs.length) (h2 : 0 ≤ r) (h3 : r < bs.length) :
  Calls Tryz.prog 105 #[.pointer (some ⟨g, 0, none⟩), .agg #[.int .i64 p, .int .i64 x, .int .i64 l, .int .i64 r]] w fun e w' => e = .returned (.bool (bs.getD l.toNat false || bs.getD r.toNat false)) ∧ Below w.heap.size w w' := by
 obtain ⟨ad, c, rfl, hx⟩ := rdK_bool h l h0 h1
 obtain ⟨ad2, c2, he, hy⟩ := rdK_bool h r h2 h3
 obtain ⟨rfl, rfl⟩ : ad = ad2 ∧ c = c2 := by
  injection he with e1 _ e2
  exact ⟨Option.some.inj e1, e2⟩
 generalize bs.getD l.toNat false = b1 at *
 generalize bs.getD r.toNat false = b2 at *
 obtain ⟨hB0, k0⟩ := news1 w #[.int .i64 p, .int .i64 x, .int .i64 l, .int .i64 r] 93
 have kb := hk.below hB0
 have c0 := pZc hB0 hx
 have c1 := pZc hB0 hy
 have i0 : (0 ≤ l) = True := eq_true h0
 have i1 : (l < (bs.length : Int)) = True := eq_true h1
 have i2 : (0 ≤ r) = True := eq_true h2
 have i3 : (r < (bs.length : Int)) = True := eq_true h3
 clear hx hy h hk he
 go_enter Tryz.func105, Tryz.ntmps105
 go_wp2
 generalize hg : w.heap.size = g0 at *
 generalize hw3 : w.alloc (.cells #[.int .i64 p, .int .i64 x, .int .i64 l, .int .i64 r] 93) = w3 at *
 cases b1
 case false =>
  refine rZu (fun _ => false) (fun W => Below w3.drew.heap.size w3.drew W) (by kernel_rfl) (cZb _) (Below.refl _ _) ?_
  apply wpU_e 0 5
  apply wpU_e 1 6
  apply wpU_e 2 7
  refine wpU_f 3 8 (h1 := by intro W hW; have e0 := (kb.drew.below hW).cell 1; have e1 := (k0.drew.below hW).cell 2; have e2 := (k0.drew.below hW).cell 3; have e3 := pZc hW (show w3.drew.cell? _ = _ from c0); have e4 := pZc hW (show w3.drew.cell? _ = _ from c1); go_simp; try rfl) (h3 := ?_)
  apply wpU_e 4 9
  refine wpU_f 5 10 (h1 := by intro W hW; have e0 := (kb.drew.below hW).cell 1; have e1 := (k0.drew.below hW).cell 2; have e2 := (k0.drew.below hW).cell 3; have e3 := pZc hW (show w3.drew.cell? _ = _ from c0); have e4 := pZc hW (show w3.drew.cell? _ = _ from c1); go_simp; try rfl) (h3 := ?_)
  refine wpU_f 6 11 (h1 := by intro W hW; have e0 := (kb.drew.below hW).cell 1; have e1 := (k0.drew.below hW).cell 2; have e2 := (k0.drew.below hW).cell 3; have e3 := pZc hW (show w3.drew.cell? _ = _ from c0); have e4 := pZc hW (show w3.drew.cell? _ = _ from c1); go_simp; try rfl) (h3 := ?_)
  refine wpU_f 7 12 (h1 := by intro W hW; have e0 := (kb.drew.below hW).cell 1; have e1 := (k0.drew.below hW).cell 2; have e2 := (k0.drew.below hW).cell 3; have e3 := pZc hW (show w3.drew.cell? _ = _ from c0); have e4 := pZc hW (show w3.drew.cell? _ = _ from c1); go_simp; try rfl) (h3 := ?_)
  apply wpU_e 8 13
  apply wpU_e 9 14
  apply wpU_e 10 15
  apply wpU_e 11 16
  refine wpU_f 12 17 (h1 := by intro W hW; have e0 := (kb.drew.below hW).cell 1; have e1 := (k0.drew.below hW).cell 2; have e2 := (k0.drew.below hW).cell 3; have e3 := pZc hW (show w3.drew.cell? _ = _ from c0); have e4 := pZc hW (show w3.drew.cell? _ = _ from c1); go_simp; try rfl) (h3 := ?_)
  apply wpU_e 13 18
  refine wpU_f 14 19 (h1 := by intro W hW; have e0 := (kb.drew.below hW).cell 1; have e1 := (k0.drew.below hW).cell 2; have e2 := (k0.drew.below hW).cell 3; have e3 := pZc hW (show w3.drew.cell? _ = _ from c0); have e4 := pZc hW (show w3.drew.cell? _ = _ from c1); go_simp; try rfl) (h3 := ?_)
  refine wpU_f 15 20 (h1 := by intro W hW; have e0 := (kb.drew.below hW).cell 1; have e1 := (k0.drew.below hW).cell 2; have e2 := (k0.drew.below hW).cell 3; have e3 := pZc hW (show w3.drew.cell? _ = _ from c0); have e4 := pZc hW (show w3.drew.cell? _ = _ from c1); go_simp; try rfl) (h3 := ?_)
  refine wpU_f 16 21 (h1 := by intro W hW; have e0 := (kb.drew.below hW).cell 1; have e1 := (k0.drew.below hW).cell 2; have e2 := (k0.drew.below hW).cell 3; have e3 := pZc hW (show w3.drew.cell? _ = _ from c0); have e4 := pZc hW (show w3.drew.cell? _ = _ from c1); go_simp; try rfl) (h3 := ?_)
  apply wpU_e 17 22
  apply wpU_e 18 4
  refine wpU_done (by kernel_rfl) (fun W1 hW1 => ?_) _
  go_simp
  go_wp2
  subst hg
  go_ret
  exact ⟨by simp, bZs (bZd hB0) hW1⟩
 case true =>
  refine rZu (fun _ => false) (fun W => Below w3.drew.heap.size w3.drew W) (by kernel_rfl) (cZb _) (Below.refl _ _) ?_
  apply wpU_e 0 5
  apply wpU_e 1 6
  apply wpU_e 2 7
  refine wpU_f 3 8 (h1 := by intro W hW; have e0 := (kb.drew.below hW).cell 1; have e1 := (k0.drew.below hW).cell 2; have e2 := (k0.drew.below hW).cell 3; have e3 := pZc hW (show w3.drew.cell? _ = _ from c0); have e4 := pZc hW (show w3.drew.cell? _ = _ from c1); go_simp; try rfl) (h3 := ?_)
  apply wpU_e 4 9
  refine wpU_f 5 10 (h1 := by intro W hW; have e0 := (kb.drew.below hW).cell 1; have e1 := (k0.drew.below hW).cell 2; have e2 := (k0.drew.below hW).cell 3; have e3 := pZc hW (show w3.drew.cell? _ = _ from c0); have e4 := pZc hW (show w3.drew.cell? _ = _ from c1); go_simp; try rfl) (h3 := ?_)
  refine wpU_f 6 11 (h1 := by intro W hW; have e0 := (kb.drew.below hW).cell 1; have e1 := (k0.drew.below hW).cell 2; have e2 := (k0.drew.below hW).cell 3; have e3 := pZc hW (show w3.drew.cell? _ = _ from c0); have e4 := pZc hW (show w3.drew.cell? _ = _ from c1); go_simp; try rfl) (h3 := ?_)
  refine wpU_f 7 12 (h1 := by intro W hW; have e0 := (kb.drew.below hW).cell 1; have e1 := (k0.drew.below hW).cell 2; have e2 := (k0.drew.below hW).cell 3; have e3 := pZc hW (show w3.drew.cell? _ = _ from c0); have e4 := pZc hW (show w3.drew.cell? _ = _ from c1); go_simp; try rfl) (h3 := ?_)
  apply wpU_e 8 13
  refine wpU_skip (i := 9) (d := some 14) rfl rfl (by kernel_rfl) (by kernel_rfl) (by kernel_rfl) (by kernel_rfl) (by rfl) ?_
  refine wpU_ac ?_
  refine wpU_skip (i := 10) (d := some 15) rfl rfl (by kernel_rfl) (by kernel_rfl) (by kernel_rfl) (by kernel_rfl) (by rfl) ?_
  refine wpU_ac ?_
  refine wpU_skip (i := 11) (d := some 16) rfl rfl (by kernel_rfl) (by kernel_rfl) (by kernel_rfl) (by kernel_rfl) (by rfl) ?_
  refine wpU_ac ?_
  refine wpU_skip (i := 12) (d := some 17) rfl rfl (by kernel_rfl) (by kernel_rfl) (by kernel_rfl) (by kernel_rfl) (by rfl) ?_
  refine wpU_ac ?_
  refine wpU_skip (i := 13) (d := some 18) rfl rfl (by kernel_rfl) (by kernel_rfl) (by kernel_rfl) (by kernel_rfl) (by rfl) ?_
  refine wpU_ac ?_
  refine wpU_skip (i := 14) (d := some 19) rfl rfl (by kernel_rfl) (by kernel_rfl) (by kernel_rfl) (by kernel_rfl) (by rfl) ?_
  refine wpU_ac ?_
  refine wpU_skip (i := 15) (d := some 20) rfl rfl (by kernel_rfl) (by kernel_rfl) (by kernel_rfl) (by kernel_rfl) (by rfl) ?_
  refine wpU_ac ?_
  refine wpU_skip (i := 16) (d := some 21) rfl rfl (by kernel_rfl) (by kernel_rfl) (by kernel_rfl) (by kernel_rfl) (by rfl) ?_
  refine wpU_ac ?_
  apply wpU_e 17 22
  apply wpU_e 18 4
  refine wpU_done (by kernel_rfl) (fun W1 hW1 => ?_) _
  go_simp
  go_wp2
  subst hg
  go_ret
  exact ⟨by simp, bZs (bZd hB0) hW1⟩
theorem rg_and (g : Nat) (u v : Value) (bs : List Bool) (p x l r : Int) (w : World) (hk : Blk w g #[u, v] 164) (h : RdK Kd.bool w v bs) (h0 : 0 ≤ l) (h1 : l < bs.length) (h2 : 0 ≤ r) (h3 : r < bs.length) :
  Calls Tryz.prog 106 #[.pointer (some ⟨g, 0, none⟩), .agg #[.int .i64 p, .int .i64 x, .int .i64 l, .int .i64 r]] w fun e w' => e = .returned (.bool (bs.getD l.toNat false && bs.getD r.toNat false)) ∧ Below w.heap.size w w' := by
 obtain ⟨ad, c, rfl, hx⟩ := rdK_bool h l h0 h1
 obtain ⟨ad2, c2, he, hy⟩ := rdK_bool h r h2 h3
 obtain ⟨rfl, rfl⟩ : ad = ad2 ∧ c = c2 := by
  injection he with e1 _ e2
  exact ⟨Option.some.inj e1, e2⟩
 generalize bs.getD l.toNat false = b1 at *
 generalize bs.getD r.toNat false = b2 at *
 obtain ⟨hB0, k0⟩ := news1 w #[.int .i64 p, .int .i64 x, .int .i64 l, .int .i64 r] 93
 have kb := hk.below hB0
 have c0 := pZc hB0 hx
 have c1 := pZc hB0 hy
 have i0 : (0 ≤ l) = True := eq_true h0
 have i1 : (l < (bs.length : Int)) = True := eq_true h1
 have i2 : (0 ≤ r) = True := eq_true h2
 have i3 : (r < (bs.length : Int)) = True := eq_true h3
 clear hx hy h hk he
 go_enter Tryz.func106, Tryz.ntmps106
 go_wp2
 generalize hg : w.heap.size = g0 at *
 generalize hw3 : w.alloc (.cells #[.int .i64 p, .int .i64 x, .int .i64 l, .int .i64 r] 93) = w3 at *
 cases b1
 case false =>
  refine rZu (fun _ => false) (fun W => Below w3.drew.heap.size w3.drew W) (by kernel_rfl) (cZb _) (Below.refl _ _) ?_
  apply wpU_e 0 5
  apply wpU_e 1 6
  apply wpU_e 2 7
  refine wpU_f 3 8 (h1 := by intro W hW; have e0 := (kb.drew.below hW).cell 1; have e1 := (k0.drew.below hW).cell 2; have e2 := (k0.drew.below hW).cell 3; have e3 := pZc hW (show w3.drew.cell? _ = _ from c0); have e4 := pZc hW (show w3.drew.cell? _ = _ from c1); go_simp; try rfl) (h3 := ?_)
  apply wpU_e 4 9
  refine wpU_f 5 10 (h1 := by intro W hW; have e0 := (kb.drew.below hW).cell 1; have e1 := (k0.drew.below hW).cell 2; have e2 := (k0.drew.below hW).cell 3; have e3 := pZc hW (show w3.drew.cell? _ = _ from c0); have e4 := pZc hW (show w3.drew.cell? _ = _ from c1); go_simp; try rfl) (h3 := ?_)
  refine wpU_f 6 11 (h1 := by intro W hW; have e0 := (kb.drew.below hW).cell 1; have e1 := (k0.drew.below hW).cell 2; have e2 := (k0.drew.below hW).cell 3; have e3 := pZc hW (show w3.drew.cell? _ = _ from c0); have e4 := pZc hW (show w3.drew.cell? _ = _ from c1); go_simp; try rfl) (h3 := ?_)
  refine wpU_f 7 12 (h1 := by intro W hW; have e0 := (kb.drew.below hW).cell 1; have e1 := (k0.drew.below hW).cell 2; have e2 := (k0.drew.below hW).cell 3; have e3 := pZc hW (show w3.drew.cell? _ = _ from c0); have e4 := pZc hW (show w3.drew.cell? _ = _ from c1); go_simp; try rfl) (h3 := ?_)
  apply wpU_e 8 13
  refine wpU_skip (i := 9) (d := some 14) rfl rfl (by kernel_rfl) (by kernel_rfl) (by kernel_rfl) (by kernel_rfl) (by rfl) ?_
  refine wpU_ac ?_
  refine wpU_skip (i := 10) (d := some 15) rfl rfl (by kernel_rfl) (by kernel_rfl) (by kernel_rfl) (by kernel_rfl) (by rfl) ?_
  refine wpU_ac ?_
  refine wpU_skip (i := 11) (d := some 16) rfl rfl (by kernel_rfl) (by kernel_rfl) (by kernel_rfl) (by kernel_rfl) (by rfl) ?_
  refine wpU_ac ?_
  refine wpU_skip (i := 12) (d := some 17) rfl rfl (by kernel_rfl) (by kernel_rfl) (by kernel_rfl) (by kernel_rfl) (by rfl) ?_
  refine wpU_ac ?_
  refine wpU_skip (i := 13) (d := some 18) rfl rfl (by kernel_rfl) (by kernel_rfl) (by kernel_rfl) (by kernel_rfl) (by rfl) ?_
  refine wpU_ac ?_
  refine wpU_skip (i := 14) (d := some 19) rfl rfl (by kernel_rfl) (by kernel_rfl) (by kernel_rfl) (by kernel_rfl) (by rfl) ?_
  refine wpU_ac ?_
  refine wpU_skip (i := 15) (d := some 20) rfl rfl (by kernel_rfl) (by kernel_rfl) (by kernel_rfl) (by kernel_rfl) (by rfl) ?_
  refine wpU_ac ?_
  refine wpU_skip (i := 16) (d := some 21) rfl rfl (by kernel_rfl) (by kernel_rfl) (by kernel_rfl) (by kernel_rfl) (by rfl) ?_
  refine wpU_ac ?_
  apply wpU_e 17 22
  apply wpU_e 18 4
  refine wpU_done (by kernel_rfl) (fun W1 hW1 => ?_) _
  go_simp
  go_wp2
  subst hg
  go_ret
  exact ⟨by simp, bZs (bZd hB0) hW1⟩
 case true =>
  refine rZu (fun _ => false) (fun W => Below w3.drew.heap.size w3.drew W) (by kernel_rfl) (cZb _) (Below.refl _ _) ?_
  apply wpU_e 0 5
  apply wpU_e 1 6
  apply wpU_e 2 7
  refine wpU_f 3 8 (h1 := by intro W hW; have e0 := (kb.drew.below hW).cell 1; have e1 := (k0.drew.below hW).cell 2; have e2 := (k0.drew.below hW).cell 3; have e3 := pZc hW (show w3.drew.cell? _ = _ from c0); have e4 := pZc hW (show w3.drew.cell? _ = _ from c1); go_simp; try rfl) (h3 := ?_)
  apply wpU_e 4 9
  refine wpU_f 5 10 (h1 := by intro W hW; have e0 := (kb.drew.below hW).cell 1; have e1 := (k0.drew.below hW).cell 2; have e2 := (k0.drew.below hW).cell 3; have e3 := pZc hW (show w3.drew.cell? _ = _ from c0); have e4 := pZc hW (show w3.drew.cell? _ = _ from c1); go_simp; try rfl) (h3 := ?_)
  refine wpU_f 6 11 (h1 := by intro W hW; have e0 := (kb.drew.below hW).cell 1; have e1 := (k0.drew.below hW).cell 2; have e2 := (k0.drew.below hW).cell 3; have e3 := pZc hW (show w3.drew.cell? _ = _ from c0); have e4 := pZc hW (show w3.drew.cell? _ = _ from c1); go_simp; try rfl) (h3 := ?_)
  refine wpU_f 7 12 (h1 := by intro W hW; have e0 := (kb.drew.below hW).cell 1; have e1 := (k0.drew.below hW).cell 2; have e2 := (k0.drew.below hW).cell 3; have e3 := pZc hW (show w3.drew.cell? _ = _ from c0); have e4 := pZc hW (show w3.drew.cell? _ = _ from c1); go_simp; try rfl) (h3 := ?_)
  apply wpU_e 8 13
  apply wpU_e 9 14
  apply wpU_e 10 15
  apply wpU_e 11 16
  refine wpU_f 12 17 (h1 := by intro W hW; have e0 := (kb.drew.below hW).cell 1; have e1 := (k0.drew.below hW).cell 2; have e2 := (k0.drew.below hW).cell 3; have e3 := pZc hW (show w3.drew.cell? _ = _ from c0); have e4 := pZc hW (show w3.drew.cell? _ = _ from c1); go_simp; try rfl) (h3 := ?_)
  apply wpU_e 13 18
  refine wpU_f 14 19 (h1 := by intro W hW; have e0 := (kb.drew.below hW).cell 1; have e1 := (k0.drew.below hW).cell 2; have e2 := (k0.drew.below hW).cell 3; have e3 := pZc hW (show w3.drew.cell? _ = _ from c0); have e4 := pZc hW (show w3.drew.cell? _ = _ from c1); go_simp; try rfl) (h3 := ?_)
  refine wpU_f 15 20 (h1 := by intro W hW; have e0 := (kb.drew.below hW).cell 1; have e1 := (k0.drew.below hW).cell 2; have e2 := (k0.drew.below hW).cell 3; have e3 := pZc hW (show w3.drew.cell? _ = _ from c0); have e4 := pZc hW (show w3.drew.cell? _ = _ from c1); go_simp; try rfl) (h3 := ?_)
  refine wpU_f 16 21 (h1 := by intro W hW; have e0 := (kb.drew.below hW).cell 1; have e1 := (k0.drew.below hW).cell 2; have e2 := (k0.drew.below hW).cell 3; have e3 := pZc hW (show w3.drew.cell? _ = _ from c0); have e4 := pZc hW (show w3.drew.cell? _ = _ from c1); go_simp; try rfl) (h3 := ?_)
  apply wpU_e 17 22
  apply wpU_e 18 4
  refine wpU_done (by kernel_rfl) (fun W1 hW1 => ?_) _
  go_simp
  go_wp2
  subst hg
  go_ret
  exact ⟨by simp, bZs (bZd hB0) hW1⟩
theorem rg_less (g : Nat) (u v : Value) (bs : List Bool) (p x l r : Int) (w : World) (hk : Blk w g #[u, v] 164) (h : RdK Kd.bool w v bs) (h0 : 0 ≤ l) (h1 : l < bs.length) (h2 : 0 ≤ r) (h3 : r < bs.length) :
  Calls Tryz.prog 107 #[.pointer (some ⟨g, 0, none⟩), .agg #[.int .i64 p, .int .i64 x, .int .i64 l, .int .i64 r]] w fun e w' => e = .returned (.bool (bs.getD l.toNat false && !bs.getD r.toNat false)) ∧ Below w.heap.size w w' := by
 obtain ⟨ad, c, rfl, hx⟩ := rdK_bool h l h0 h1
 obtain ⟨ad2, c2, he, hy⟩ := rdK_bool h r h2 h3
 obtain ⟨rfl, rfl⟩ : ad = ad2 ∧ c = c2 := by
  injection he with e1 _ e2
  exact ⟨Option.some.inj e1, e2⟩
 generalize bs.getD l.toNat false = b1 at *
 generalize bs.getD r.toNat false = b2 at *
 obtain ⟨hB0, k0⟩ := news1 w #[.int .i64 p, .int .i64 x, .int .i64 l, .int .i64 r] 93
 have kb := hk.below hB0
 have c0 := pZc hB0 hx
 have c1 := pZc hB0 hy
 have i0 : (0 ≤ l) = True := eq_true h0
 have i1 : (l < (bs.length : Int)) = True := eq_true h1
 have i2 : (0 ≤ r) = True := eq_true h2
 have i3 : (r < (bs.length : Int)) = True := eq_true h3
 clear hx hy h hk he
 go_enter Tryz.func107, Tryz.ntmps107
 go_wp2
 generalize hg : w.heap.size = g0 at *
 generalize hw3 : w.alloc (.cells #[.int .i64 p, .int .i64 x, .int .i64 l, .int .i64 r] 93) = w3 at *
 cases b1
 case false =>
  refine rZu (fun _ => false) (fun W => Below w3.drew.heap.size w3.drew W) (by kernel_rfl) (cZb _) (Below.refl _ _) ?_
  apply wpU_e 0 5
  apply wpU_e 1 6
  apply wpU_e 2 7
  refine wpU_f 3 8 (h1 := by intro W hW; have e0 := (kb.drew.below hW).cell 1; have e1 := (k0.drew.below hW).cell 2; have e2 := (k0.drew.below hW).cell 3; have e3 := pZc hW (show w3.drew.cell? _ = _ from c0); have e4 := pZc hW (show w3.drew.cell? _ = _ from c1); go_simp; try rfl) (h3 := ?_)
  apply wpU_e 4 9
  refine wpU_f 5 10 (h1 := by intro W hW; have e0 := (kb.drew.below hW).cell 1; have e1 := (k0.drew.below hW).cell 2; have e2 := (k0.drew.below hW).cell 3; have e3 := pZc hW (show w3.drew.cell? _ = _ from c0); have e4 := pZc hW (show w3.drew.cell? _ = _ from c1); go_simp; try rfl) (h3 := ?_)
  refine wpU_f 6 11 (h1 := by intro W hW; have e0 := (kb.drew.below hW).cell 1; have e1 := (k0.drew.below hW).cell 2; have e2 := (k0.drew.below hW).cell 3; have e3 := pZc hW (show w3.drew.cell? _ = _ from c0); have e4 := pZc hW (show w3.drew.cell? _ = _ from c1); go_simp; try rfl) (h3 := ?_)
  refine wpU_f 7 12 (h1 := by intro W hW; have e0 := (kb.drew.below hW).cell 1; have e1 := (k0.drew.below hW).cell 2; have e2 := (k0.drew.below hW).cell 3; have e3 := pZc hW (show w3.drew.cell? _ = _ from c0); have e4 := pZc hW (show w3.drew.cell? _ = _ from c1); go_simp; try rfl) (h3 := ?_)
  apply wpU_e 8 13
  refine wpU_skip (i := 9) (d := some 14) rfl rfl (by kernel_rfl) (by kernel_rfl) (by kernel_rfl) (by kernel_rfl) (by rfl) ?_
  refine wpU_ac ?_
  refine wpU_skip (i := 10) (d := some 15) rfl rfl (by kernel_rfl) (by kernel_rfl) (by kernel_rfl) (by kernel_rfl) (by rfl) ?_
  refine wpU_ac ?_
  refine wpU_skip (i := 11) (d := some 16) rfl rfl (by kernel_rfl) (by kernel_rfl) (by kernel_rfl) (by kernel_rfl) (by rfl) ?_
  refine wpU_ac ?_
  refine wpU_skip (i := 12) (d := some 17) rfl rfl (by kernel_rfl) (by kernel_rfl) (by kernel_rfl) (by kernel_rfl) (by rfl) ?_
  refine wpU_ac ?_
  refine wpU_skip (i := 13) (d := some 18) rfl rfl (by kernel_rfl) (by kernel_rfl) (by kernel_rfl) (by kernel_rfl) (by rfl) ?_
  refine wpU_ac ?_
  refine wpU_skip (i := 14) (d := some 19) rfl rfl (by kernel_rfl) (by kernel_rfl) (by kernel_rfl) (by kernel_rfl) (by rfl) ?_
  refine wpU_ac ?_
  refine wpU_skip (i := 15) (d := some 20) rfl rfl (by kernel_rfl) (by kernel_rfl) (by kernel_rfl) (by kernel_rfl) (by rfl) ?_
  refine wpU_ac ?_
  refine wpU_skip (i := 16) (d := some 21) rfl rfl (by kernel_rfl) (by kernel_rfl) (by kernel_rfl) (by kernel_rfl) (by rfl) ?_
  refine wpU_ac ?_
  refine wpU_skip (i := 17) (d := some 22) rfl rfl (by kernel_rfl) (by kernel_rfl) (by kernel_rfl) (by kernel_rfl) (by rfl) ?_
  refine wpU_ac ?_
  apply wpU_e 18 23
  apply wpU_e 19 4
  refine wpU_done (by kernel_rfl) (fun W1 hW1 => ?_) _
  go_simp
  go_wp2
  subst hg
  go_ret
  exact ⟨by simp, bZs (bZd hB0) hW1⟩
 case true =>
  refine rZu (fun _ => false) (fun W => Below w3.drew.heap.size w3.drew W) (by kernel_rfl) (cZb _) (Below.refl _ _) ?_
  apply wpU_e 0 5
  apply wpU_e 1 6
  apply wpU_e 2 7
  refine wpU_f 3 8 (h1 := by intro W hW; have e0 := (kb.drew.below hW).cell 1; have e1 := (k0.drew.below hW).cell 2; have e2 := (k0.drew.below hW).cell 3; have e3 := pZc hW (show w3.drew.cell? _ = _ from c0); have e4 := pZc hW (show w3.drew.cell? _ = _ from c1); go_simp; try rfl) (h3 := ?_)
  apply wpU_e 4 9
  refine wpU_f 5 10 (h1 := by intro W hW; have e0 := (kb.drew.below hW).cell 1; have e1 := (k0.drew.below hW).cell 2; have e2 := (k0.drew.below hW).cell 3; have e3 := pZc hW (show w3.drew.cell? _ = _ from c0); have e4 := pZc hW (show w3.drew.cell? _ = _ from c1); go_simp; try rfl) (h3 := ?_)
  refine wpU_f 6 11 (h1 := by intro W hW; have e0 := (kb.drew.below hW).cell 1; have e1 := (k0.drew.below hW).cell 2; have e2 := (k0.drew.below hW).cell 3; have e3 := pZc hW (show w3.drew.cell? _ = _ from c0); have e4 := pZc hW (show w3.drew.cell? _ = _ from c1); go_simp; try rfl) (h3 := ?_)
  refine wpU_f 7 12 (h1 := by intro W hW; have e0 := (kb.drew.below hW).cell 1; have e1 := (k0.drew.below hW).cell 2; have e2 := (k0.drew.below hW).cell 3; have e3 := pZc hW (show w3.drew.cell? _ = _ from c0); have e4 := pZc hW (show w3.drew.cell? _ = _ from c1); go_simp; try rfl) (h3 := ?_)
  apply wpU_e 8 13
  apply wpU_e 9 14
  apply wpU_e 10 15
  apply wpU_e 11 16
  refine wpU_f 12 17 (h1 := by intro W hW; have e0 := (kb.drew.below hW).cell 1; have e1 := (k0.drew.below hW).cell 2; have e2 := (k0.drew.below hW).cell 3; have e3 := pZc hW (show w3.drew.cell? _ = _ from c0); have e4 := pZc hW (show w3.drew.cell? _ = _ from c1); go_simp; try rfl) (h3 := ?_)
  apply wpU_e 13 18
  refine wpU_f 14 19 (h1 := by intro W hW; have e0 := (kb.drew.below hW).cell 1; have e1 := (k0.drew.below hW).cell 2; have e2 := (k0.drew.below hW).cell 3; have e3 := pZc hW (show w3.drew.cell? _ = _ from c0); have e4 := pZc hW (show w3.drew.cell? _ = _ from c1); go_simp; try rfl) (h3 := ?_)
  refine wpU_f 15 20 (h1 := by intro W hW; have e0 := (kb.drew.below hW).cell 1; have e1 := (k0.drew.below hW).cell 2; have e2 := (k0.drew.below hW).cell 3; have e3 := pZc hW (show w3.drew.cell? _ = _ from c0); have e4 := pZc hW (show w3.drew.cell? _ = _ from c1); go_simp; try rfl) (h3 := ?_)
  refine wpU_f 16 21 (h1 := by intro W hW; have e0 := (kb.drew.below hW).cell 1; have e1 := (k0.drew.below hW).cell 2; have e2 := (k0.drew.below hW).cell 3; have e3 := pZc hW (show w3.drew.cell? _ = _ from c0); have e4 := pZc hW (show w3.drew.cell? _ = _ from c1); go_simp; try rfl) (h3 := ?_)
  apply wpU_e 17 22
  apply wpU_e 18 23
  apply wpU_e 19 4
  refine wpU_done (by kernel_rfl) (fun W1 hW1 => ?_) _
  go_simp
  go_wp2
  subst hg
  go_ret
  exact ⟨by simp, bZs (bZd hB0) hW1⟩
end Go.Proofs.YtociicfjhgfgpaaGreatDoor

/- workpieceref03: FromInt: the walk. workpieceref04: Make, Of: the walks. rational: do, mul, quotient, reduced, Make, Of: the walks. rational: Valid, check, sum, Add, Sub, Mul: the walks. -/
import Derived.Test.YtociicfjhgfgpaaGreatDoorR13
import Derived.Test.YtociicfjhgfgpaaGreatDoorR02
import Derived.Test.YtociicfjhgfgpaaGreatDoorR16
import Derived.Shelf.Abstract
set_option linter.unusedVariables false
set_option linter.unusedSimpArgs false
set_option maxHeartbeats 4000000
set_option maxRecDepth 100000
namespace Go.Proofs.YtociicfjhgfgpaaGreatDoor
open Go.RowKit Go.Proofs.YtociicfjhgfgpaaGreatDoorW.PrintWords
theorem tdiv_nat (q : Nat) : ((q : Int).tdiv 10) = ((q / 10 : Nat) : Int) := by rw [Int.tdiv_eq_ediv_of_nonneg (by omega)]; omega
theorem tmod_nat (q : Nat) : ((q : Int).tmod 10) = ((q % 10 : Nat) : Int) := by rw [Int.tmod_eq_emod_of_nonneg (by omega)]; omega
theorem tdiv_neg (q : Nat) : ((-(q : Int)).tdiv 10) = -((q / 10 : Nat) : Int) := by rw [Int.neg_tdiv, tdiv_nat]
theorem tmod_neg (q : Nat) : ((-(q : Int)).tmod 10) = -((q % 10 : Nat) : Int) := by rw [Int.neg_tmod, tmod_nat]
theorem ref03_FromInt (n : Int) (w : World) (h0 : -1000000000 ≤ n) (h1 : n ≤ 1000000000) :
  Calls Tryz.prog 63 #[.int .i64 n] w fun e w' => e = .returned (.string (itx n)) ∧ Below w.heap.size w w' := by
 obtain ⟨x, hx⟩ : ∃ x, n.natAbs = x := ⟨_, rfl⟩
 have hx9 : x ≤ 1000000000 := by omega
 have hlen : (digs 10 x).length ≤ 10 := digs_len_le (by decide) (show x < 10 ^ 10 by omega)
 by_cases hn : n < 0
 ·have hnx : n = -(x : Int) := by omega
  have HT : Aside0 (txt true x = itx n) := ⟨by rw [txt_sg, hnx]; rfl⟩
  have hxp : -(x : Int) < 0 := by omega
  have hxp2 : 0 < x := by omega
  have hxp3 : (0 : Int) < (x : Int) := by omega
  subst hnx
  clear hn hx
  go_enter Tryz.func63, Tryz.ntmps63
  go_wp2
  go_loopg [3, 4] x (fun k v3 v4 w' => ∃ i : Nat, v4 = .int .i64 (-(k : Int)) ∧ Aside0 (k = x / 10 ^ i ∧ ∀ j, j < i → 0 < x / 10 ^ j) ∧ Own w' w.heap.size v3 (low 10 x i) ∧ Below w.heap.size w w')
  case atStart => exact ⟨0, rfl, ⟨by simp, fun j hj => absurd hj (Nat.not_lt_zero _)⟩, Own.nil _ _, Below.refl _ _⟩
  obtain ⟨i, rfl, HK, HO, HB⟩ := hrel
  by_cases hk0 : gk = 0
  ·subst hk0
   rw [low_end (by decide) _ _ HK.out.1.symm HK.out.2] at HO
   have S := ref03_text true u3 x wr HO.rd (by omega)
   rw [HT.out] at S
   clear HK
   go_wp2_with (go_at_call 134; refine S.mono ?_; clear S; rintro e w4 ⟨rfl, hb4⟩)
   go_ret
   exact ⟨rfl, bZs HB hb4⟩
  ·have e1 := tdiv_neg gk
   have e2 := tmod_neg gk
   obtain ⟨q, hq⟩ : ∃ q, gk / 10 = q := ⟨_, rfl⟩
   obtain ⟨r, hr⟩ : ∃ q, gk % 10 = q := ⟨_, rfl⟩
   rw [hq] at e1
   rw [hr] at e2
   have hi10 : i < 10 := by
    have h9 := (digs_lt (b := 10) (by decide) x i).2 (by rw [← HK.out.1]; omega)
    omega
   have HX : Aside0 (q = x / 10 ^ (i + 1) ∧ low 10 x i ++ [(r : Int)] = low 10 x (i + 1)) := ⟨by rw [Nat.pow_succ, ← Nat.div_div_eq_div_mul, ← HK.out.1, hq], by rw [low_succ, ← HK.out.1, hr]⟩
   have hgt : 0 < gk := by omega
   have hk9 : gk ≤ 1000000000 := by rw [HK.out.1]; exact Nat.le_trans (Nat.div_le_self _ _) hx9
   have hqk : q < gk := by omega
   have hr10 : r < 10 := by omega
   have hne : (-(gk : Int) != 0) = true := bne_iff_ne.2 (by omega)
   by_cases hr0 : -(r : Int) < 0
   ·have HN : Aside0 ((low 10 x i).length < 17592186044415) := ⟨by rw [low_len]; omega⟩
    clear hq hr
    go_wp2_with (at_builtin; refine app1 (w0 := w) w.heap.size (.tmp 19) (.tmp 21) 165 rfl rfl Tryz.underlying165 _ _ _ rfl rfl HO HB HB.size HN.out ?_; intro v2 w2 ho2 hb2 hg2)
    clear hg2
    go_roundg q
    case measure => omega
    case rel => exact ⟨i + 1, by go_num, ⟨HX.out.1, fun j hj => by by_cases hji : j = i; (· subst hji; rw [← HK.out.1]; omega); (· exact HK.out.2 j (by omega))⟩, by rw [← HX.out.2]; exact ho2, hb2⟩
   ·have hr00 : r = 0 := by omega
    subst hr00
    have HN : Aside0 ((low 10 x i).length < 17592186044415) := ⟨by rw [low_len]; omega⟩
    clear hq hr
    go_wp2_with (at_builtin; refine app1 (w0 := w) w.heap.size (.tmp 19) (.tmp 21) 165 rfl rfl Tryz.underlying165 _ _ _ rfl rfl HO HB HB.size HN.out ?_; intro v2 w2 ho2 hb2 hg2)
    clear hg2
    go_roundg q
    case measure => omega
    case rel => exact ⟨i + 1, by go_num, ⟨HX.out.1, fun j hj => by by_cases hji : j = i; (· subst hji; rw [← HK.out.1]; omega); (· exact HK.out.2 j (by omega))⟩, by rw [← HX.out.2]; exact ho2, hb2⟩
 ·have hnx : n = (x : Int) := by omega
  have HT : Aside0 (txt false x = itx n) := ⟨by rw [itx_nat', hnx]⟩
  subst hnx
  clear hn hx
  go_enter Tryz.func63, Tryz.ntmps63
  go_wp2
  go_loopg [3, 4] x (fun k v3 v4 w' => ∃ i : Nat, v4 = .int .i64 k ∧ Aside0 (k = x / 10 ^ i ∧ ∀ j, j < i → 0 < x / 10 ^ j) ∧ Own w' w.heap.size v3 (low 10 x i) ∧ Below w.heap.size w w')
  case atStart => exact ⟨0, rfl, ⟨by simp, fun j hj => absurd hj (Nat.not_lt_zero _)⟩, Own.nil _ _, Below.refl _ _⟩
  obtain ⟨i, rfl, HK, HO, HB⟩ := hrel
  by_cases hk0 : gk = 0
  ·subst hk0
   rw [low_end (by decide) _ _ HK.out.1.symm HK.out.2] at HO
   have S := ref03_text false u3 x wr HO.rd (by omega)
   rw [HT.out] at S
   clear HK
   go_wp2_with (go_at_call 134; refine S.mono ?_; clear S; rintro e w4 ⟨rfl, hb4⟩)
   go_ret
   exact ⟨rfl, bZs HB hb4⟩
  ·have e1 := tdiv_nat gk
   have e2 := tmod_nat gk
   obtain ⟨q, hq⟩ : ∃ q, gk / 10 = q := ⟨_, rfl⟩
   obtain ⟨r, hr⟩ : ∃ q, gk % 10 = q := ⟨_, rfl⟩
   rw [hq] at e1
   rw [hr] at e2
   have hi10 : i < 10 := by
    have h9 := (digs_lt (b := 10) (by decide) x i).2 (by rw [← HK.out.1]; omega)
    omega
   have HX : Aside0 (q = x / 10 ^ (i + 1) ∧ low 10 x i ++ [(r : Int)] = low 10 x (i + 1)) := ⟨by rw [Nat.pow_succ, ← Nat.div_div_eq_div_mul, ← HK.out.1, hq], by rw [low_succ, ← HK.out.1, hr]⟩
   have hgt : 0 < gk := by omega
   have hk9 : gk ≤ 1000000000 := by rw [HK.out.1]; exact Nat.le_trans (Nat.div_le_self _ _) hx9
   have hqk : q < gk := by omega
   have hr10 : r < 10 := by omega
   have hne : ((gk : Int) != 0) = true := bne_iff_ne.2 (by omega)
   have HN : Aside0 ((low 10 x i).length < 17592186044415) := ⟨by rw [low_len]; omega⟩
   clear hq hr
   go_wp2_with (at_builtin; refine app1 (w0 := w) w.heap.size (.tmp 19) (.tmp 21) 165 rfl rfl Tryz.underlying165 _ _ _ rfl rfl HO HB HB.size HN.out ?_; intro v2 w2 ho2 hb2 hg2)
   clear hg2
   go_roundg q
   case measure => omega
   case rel => exact ⟨i + 1, by go_num, ⟨HX.out.1, fun j hj => by by_cases hji : j = i; (· subst hji; rw [← HK.out.1]; omega); (· exact HK.out.2 j (by omega))⟩, by rw [← HX.out.2]; exact ho2, hb2⟩
def rv (q : Rat) : Value := .agg #[.string (itx q.num), .string (itx q.den)]
theorem fit_gcd {n d : Int} (hd : fit d) (h0 : 0 < d) : fit (Nat.gcd n.natAbs d.natAbs : Nat) := by
 unfold fit at *
 rw [Int.natAbs_natCast]
 exact Nat.lt_of_le_of_lt (Nat.gcd_le_right _ (by omega)) hd
theorem gcd_ne {n d : Int} (h0 : 0 < d) : ((Nat.gcd n.natAbs d.natAbs : Nat) : Int) ≠ 0 := by
 have : 0 < Nat.gcd n.natAbs d.natAbs := Nat.gcd_pos_of_pos_right _ (by omega)
 omega
theorem mk_int {n d : Int} (h0 : 0 < d) : (mkRat n d.toNat).num = n / (Nat.gcd n.natAbs d.natAbs : Nat) ∧ ((mkRat n d.toNat).den : Int) = d / (Nat.gcd n.natAbs d.natAbs : Nat) := by
 obtain ⟨h1, h2⟩ := mk_low (n := n) (d := d.toNat) (by omega)
 rw [show d.toNat = d.natAbs by omega] at h1 h2 ⊢
 refine ⟨h1, ?_⟩
 rw [h2, show (d.natAbs : Int) = d by omega]
theorem ref04_Make (n d : Int) (w : World) (h1 : fit n) (h2 : fit d) (h0 : 0 < d) :
  Calls Tryz.prog 62 #[.string (itx n), .string (itx d)] w fun e w' => e = .returned (.tuple #[rv (mkRat n d.toNat), .int .i64 0]) ∧ Below w.heap.size w w' := by
 have V1 := fun W => ref03_Valid_ok n W h1
 have V2 := fun W => ref03_Valid_ok d W h2
 have C := fun W => ref03_Compare d 0 W h2 (by decide)
 rw [show cmpI d 0 = 1 by unfold cmpI; rw [if_neg (by omega), if_neg (by omega)], show itx 0 = ⟨#[48]⟩ from rfl] at C
 have hd0 : ((itx d).toList == [48]) = false := by
  have := itx_eq d 0
  rw [decide_eq_false (by omega), show (itx 0).toList = [48] by rw [ByteArray.toList_eq]; rfl] at this
  exact this
 have G := fun W => ref03_Gcd n d W h1 h2
 have D1 := fun W => ref03_Div n (Nat.gcd n.natAbs d.natAbs : Nat) W h1 (fit_gcd h2 h0) (gcd_ne h0)
 have D2 := fun W => ref03_Div d (Nat.gcd n.natAbs d.natAbs : Nat) W h2 (fit_gcd h2 h0) (gcd_ne h0)
 obtain ⟨m1, m2⟩ := mk_int (n := n) h0
 rw [← m1] at D1
 rw [← m2] at D2
 unfold rv
 generalize itx (mkRat n d.toNat).num = o1 at *
 generalize itx ((mkRat n d.toNat).den : Int) = o2 at *
 generalize itx (n % (Nat.gcd n.natAbs d.natAbs : Nat)) = p1 at *
 generalize itx (d % (Nat.gcd n.natAbs d.natAbs : Nat)) = p2 at *
 generalize itx (Nat.gcd n.natAbs d.natAbs : Nat) = g at *
 generalize itx n = s1 at *
 generalize itx d = s2 at *
 clear m1 m2 h1 h2 h0
 go_enter Tryz.func62, Tryz.ntmps62
 go_wp2_with (first | (go_at_call 78; refine (V1 _).mono ?_; clear V1; rintro e w1 ⟨rfl, rfl⟩) | (go_at_call 78; refine (V2 _).mono ?_; clear V2; rintro e w1 ⟨rfl, rfl⟩) | (go_at_call 79; refine (C _).mono ?_; clear C; rintro e w2 ⟨rfl, hb2⟩) | (go_at_call 80; refine (G _).mono ?_; clear G; rintro e w3 ⟨rfl, hb3⟩) | (go_at_call 133; refine (D1 _).mono ?_; clear D1; rintro e w4 ⟨rfl, hb4⟩) | (go_at_call 133; refine (D2 _).mono ?_; clear D2; rintro e w5 ⟨rfl, hb5⟩; have hB := bZs (bZs (bZs hb2 hb3) hb4) hb5; obtain ⟨hk, hB0⟩ := Blk.le (Below.refl _ _) hB; obtain ⟨c0, c1, f0, f1⟩ := hk.two))
 refine bodyPost_ret (results_ct rfl _ _ w.heap.size 25 #[.string o1, .string o2] (0, 0) _ rfl ((hk.set 0 (.string o1)).set 1 (.string o2)) Tryz.underlying25 rfl (by kernel_rfl)) rfl ?_
 exact ⟨rfl, bZe (bZe hB0 (Nat.le_refl _)) (Nat.le_refl _)⟩
theorem ref04_Of (n d : Int) (w : World) (h1 : -1000000000 ≤ n) (h2 : n ≤ 1000000000) (h0 : 0 < d) (h3 : d ≤ 1000000000) :
  Calls Tryz.prog 25 #[.int .i64 n, .int .i64 d] w fun e w' => e = .returned (.tuple #[rv (mkRat n d.toNat), .int .i64 0]) ∧ Below w.heap.size w w' := by
 have F1 := fun W => ref03_FromInt n W h1 h2
 have F2 := fun W => ref03_FromInt d W (by omega) h3
 have M := fun W => ref04_Make n d W (Nat.lt_of_le_of_lt (show n.natAbs ≤ 1000000000 by omega) (by decide)) (Nat.lt_of_le_of_lt (show d.natAbs ≤ 1000000000 by omega) (by decide)) h0
 unfold rv at *
 generalize itx (mkRat n d.toNat).num = o1 at *
 generalize itx ((mkRat n d.toNat).den : Int) = o2 at *
 generalize itx n = s1 at *
 generalize itx d = s2 at *
 go_enter Tryz.func25, Tryz.ntmps25
 go_wp2_with (first | (go_at_call 63; refine (F1 _).mono ?_; clear F1; rintro e w2 ⟨rfl, hb2⟩) | (go_at_call 63; refine (F2 _).mono ?_; clear F2; rintro e w3 ⟨rfl, hb3⟩) | (go_at_call 62; refine (M _).mono ?_; clear M; rintro e w4 ⟨rfl, hb4⟩; obtain ⟨hk, hB0⟩ := Blk.le (Below.refl _ _) (bZs (bZs hb2 hb3) hb4); obtain ⟨c0, c1, f0, f1⟩ := hk.two))
 refine bodyPost_ret (results_ct rfl _ _ w.heap.size 25 #[.string o1, .string o2] (0, 0) _ rfl ((hk.set 0 (.string o1)).set 1 (.string o2)) Tryz.underlying25 rfl (by kernel_rfl)) rfl ?_
 exact ⟨rfl, bZe (bZe hB0 (Nat.le_refl _)) (Nat.le_refl _)⟩
end Go.Proofs.YtociicfjhgfgpaaGreatDoor
namespace Go.Proofs.YtociicfjhgfgpaaGreatDoor
open Go.RowKit Go.Shelf Go.Lib Go.Proofs.YtociicfjhgfgpaaGreatDoorW.PrintWords
theorem set_same_cell {w : World} {b : Nat} {v : Value} {t : TypeId} (hk : Blk w b #[v] t) : w.setCell ⟨b, 0, none⟩ v = w := by
 have h : (w.setCell ⟨b, 0, none⟩ v).heap = w.heap := by
  refine Array.ext (by simp) (fun i h1 h2 => ?_)
  have e : (w.setCell ⟨b, 0, none⟩ v).heap[i]? = w.heap[i]? := by
   by_cases hi : i = b
   ·subst hi
    rw [show (w.setCell ⟨i, 0, none⟩ v).heap[i]? = _ from hk.set 0 v]
    exact hk.symm
   ·exact Below.heap_setCell w ⟨b, 0, none⟩ v i hi
  rw [Array.getElem?_eq_getElem h1, Array.getElem?_eq_getElem h2] at e
  injection e
 exact congrArg (fun h => ({ w with heap := h } : World)) h
theorem rat_do (b g : Nat) (s1 s2 s : ByteArray) (w : World) (hk : Blk w b #[.bool false] 179) (eg : ∀ args w, (callFunc g args).run Tryz.prog w = .ok (.enter g args) w)
  (hf : ∀ W, Below w.heap.size w W → Calls Tryz.prog g #[.string s1, .string s2] W fun e w' => e = .returned (.tuple #[.string s, .int .i64 0]) ∧ Below W.heap.size W w') :
  Calls Tryz.prog 118 #[.pointer (some ⟨b, 0, none⟩), .func (.func g) #[] #[], .string s1, .string s2] w fun e w' => e = .returned (.string s) ∧ Below w.heap.size w w' := by
 have HF := hf w (Below.refl _ _)
 have c0 := hk.cell 0
 go_enter Tryz.func118, Tryz.ntmps118
 go_wp2_with (go_at_fn g; refine HF.mono ?_; clear HF; rintro e w2 ⟨rfl, hb2⟩; have hk2 := hk.below hb2; have c2 := hk2.cell 0; have f2 := hk2.frozen 0)
 go_ret
 rw [set_same_cell hk2]
 exact ⟨rfl, hb2⟩
theorem rat_mul (b : Nat) (x y : Int) (w : World) (hp : Pow w) (hk : Blk w b #[.bool false] 179) (h1 : fit x) (h2 : fit y) (h3 : fit (x * y)) :
  Calls Tryz.prog 119 #[.pointer (some ⟨b, 0, none⟩), .string (itx x), .string (itx y)] w fun e w' => e = .returned (.string (itx (x * y))) ∧ Below w.heap.size w w' := by
 have D := rat_do b 178 (itx x) (itx y) (itx (x * y)) w hk (enters_of Tryz.func178 (by kernel_rfl) rfl) (fun W hb => by
  have := int_Mul x y W (hp.below hb) h1 h2
  unfold outT outC at this
  rw [if_pos h3, if_pos h3] at this
  exact this)
 generalize itx (x * y) = o at *
 generalize itx x = s1 at *
 generalize itx y = s2 at *
 go_enter Tryz.func119, Tryz.ntmps119
 go_wp2_with (go_at_call 118; refine D.mono ?_; clear D; rintro e w2 ⟨rfl, hb2⟩)
 go_ret
 exact ⟨rfl, hb2⟩
theorem rat_quo1 (x y : Int) (w : World) (hp : Pow w) (h1 : fit x) (h2 : fit y) (hy : y ≠ 0) :
  Calls Tryz.prog 210 #[.string (itx x), .string (itx y)] w fun e w' => e = .returned (.tuple #[.string (itx (x / y)), .int .i64 0]) ∧ Below w.heap.size w w' := by
 have D := int_Div x y w hp h1 h2 hy
 generalize itx (x / y) = o at *
 generalize itx (x % y) = o2 at *
 generalize itx x = s1 at *
 generalize itx y = s2 at *
 go_enter Tryz.func210, Tryz.ntmps210
 go_wp2_with (go_at_call 45; refine D.mono ?_; clear D; rintro e w2 ⟨rfl, hb2⟩)
 go_ret2
 exact ⟨rfl, hb2⟩
theorem rat_quotient (b : Nat) (x y : Int) (w : World) (hp : Pow w) (hk : Blk w b #[.bool false] 179) (h1 : fit x) (h2 : fit y) (hy : y ≠ 0) :
  Calls Tryz.prog 179 #[.pointer (some ⟨b, 0, none⟩), .string (itx x), .string (itx y)] w fun e w' => e = .returned (.string (itx (x / y))) ∧ Below w.heap.size w w' := by
 have D := rat_do b 210 (itx x) (itx y) (itx (x / y)) w hk (enters_of Tryz.func210 (by kernel_rfl) rfl) (fun W hb => rat_quo1 x y W (hp.below hb) h1 h2 hy)
 generalize itx (x / y) = o at *
 generalize itx x = s1 at *
 generalize itx y = s2 at *
 go_enter Tryz.func179, Tryz.ntmps179
 go_wp2_with (go_at_call 118; refine D.mono ?_; clear D; rintro e w2 ⟨rfl, hb2⟩)
 go_ret
 exact ⟨rfl, hb2⟩
theorem rat_reduced (b : Nat) (n d : Int) (w : World) (hp : Pow w) (hk : Blk w b #[.bool false] 179) (h1 : fit n) (h2 : fit d) (h0 : 0 < d) :
  Calls Tryz.prog 120 #[.pointer (some ⟨b, 0, none⟩), .string (itx n), .string (itx d)] w fun e w' => e = .returned (.tuple #[rv (mkRat n d.toNat), .int .i64 0]) ∧ Below w.heap.size w w' := by
 have CM := fun W => int_Compare d 0 W h2 (by decide)
 rw [show cmpI d 0 = 1 by unfold cmpI; rw [if_neg (by omega), if_neg (by omega)], show itx 0 = ⟨#[48]⟩ from rfl] at CM
 have hd0 : ((itx d).toList == [48]) = false := by
  have := itx_eq d 0
  rw [decide_eq_false (by omega), show (itx 0).toList = [48] by rw [ByteArray.toList_eq]; rfl] at this
  exact this
 have G := fun W (hb : Below w.heap.size w W) hk => rat_do b 109 (itx n) (itx d) _ W hk (enters_of Tryz.func109 (by kernel_rfl) rfl) (fun W' hb' => int_Gcd n d W' ((hp.below hb).below hb') h1 h2)
 have D1 := fun W (hb : Below w.heap.size w W) hk => rat_quotient b n (Nat.gcd n.natAbs d.natAbs : Nat) W (hp.below hb) hk h1 (fit_gcd h2 h0) (gcd_ne h0)
 have D2 := fun W (hb : Below w.heap.size w W) hk => rat_quotient b d (Nat.gcd n.natAbs d.natAbs : Nat) W (hp.below hb) hk h2 (fit_gcd h2 h0) (gcd_ne h0)
 obtain ⟨m1, m2⟩ := mk_int (n := n) h0
 rw [← m1] at D1
 rw [← m2] at D2
 unfold rv
 generalize itx (mkRat n d.toNat).num = o1 at *
 generalize itx ((mkRat n d.toNat).den : Int) = o2 at *
 generalize itx (Nat.gcd n.natAbs d.natAbs : Nat) = g at *
 generalize itx n = s1 at *
 generalize itx d = s2 at *
 clear m1 m2 h1 h2 h0
 obtain ⟨hB0, hr0⟩ := news1 w #[.string ⟨#[]⟩, .string ⟨#[]⟩] 25
 have hk0 := hk.below hB0
 have c0 := hk0.cell 0
 have hneb : w.heap.size ≠ b := fun e => by have := hk.lt; omega
 go_enter Tryz.func120, Tryz.ntmps120
 go_wp2_with (first | (go_at_call 46; refine (CM _).mono ?_; clear CM; rintro e w2 ⟨rfl, hb2⟩; have hB2 := bZs hB0 hb2; have hk2 := hk0.below hb2) | (go_at_call 118; refine (G _ hB2 hk2).mono ?_; clear G; rintro e w3 ⟨rfl, hb3⟩; have hB3 := bZs hB2 hb3; have hk3 := hk2.below hb3) | (go_at_call 179; refine (D1 _ hB3 hk3).mono ?_; clear D1; rintro e w4 ⟨rfl, hb4⟩; have hB4 := bZs hB3 hb4; have hk4 := hk3.below hb4) | (go_at_call 179; refine (D2 _ hB4 hk4).mono ?_; clear D2; rintro e w5 ⟨rfl, hb5⟩; have hB5 := bZs hB4 hb5; have hk5 := hk4.below hb5; have hr5 := (((hr0.below hb2).below hb3).below hb4).below hb5; have k5 := (hk5.alloc (.cells #[.string o1, .string o2] 25)).cell 0; obtain ⟨r0, r1, q0, q1⟩ := (hr5.alloc (.cells #[.string o1, .string o2] 25)).two))
 refine bodyPost_ret (results_ct rfl _ _ w.heap.size 25 #[.string o1, .string o2] (0, 0) _ rfl (((hr5.alloc (.cells #[.string o1, .string o2] 25)).set 0 (.string o1)).set 1 (.string o2)) Tryz.underlying25 rfl (by kernel_rfl)) rfl ?_
 exact ⟨rfl, bZe (bZe (bZa hB5 _) (Nat.le_refl _)) (Nat.le_refl _)⟩
theorem rat_Make (n d : Int) (w : World) (hp : Pow w) (h1 : fit n) (h2 : fit d) (h0 : 0 < d) :
  Calls Tryz.prog 138 #[.string (itx n), .string (itx d)] w fun e w' => e = .returned (.tuple #[rv (mkRat n d.toNat), .int .i64 0]) ∧ Below w.heap.size w w' := by
 have V1 := fun W => int_Valid (itx n) W (by have := itx_size h1; omega)
 have V2 := fun W => int_Valid (itx d) W (by have := itx_size h2; omega)
 rw [isInt_itx h1] at V1
 rw [isInt_itx h2] at V2
 have RD := fun b W (hb : Below w.heap.size w W) hk => rat_reduced b n d W (hp.below hb) hk h1 h2 h0
 unfold rv at *
 generalize itx (mkRat n d.toNat).num = o1 at *
 generalize itx ((mkRat n d.toNat).den : Int) = o2 at *
 generalize itx n = s1 at *
 generalize itx d = s2 at *
 clear h1 h2 h0
 obtain ⟨hB0, hr0⟩ := news1 w #[.string ⟨#[]⟩, .string ⟨#[]⟩] 25
 go_enter Tryz.func138, Tryz.ntmps138
 go_wp2_with (first | (go_at_call 108; refine (V1 _).mono ?_; clear V1; rintro e w2 ⟨rfl, hb2⟩) | (go_at_call 108; refine (V2 _).mono ?_; clear V2; rintro e w3 ⟨rfl, hb3⟩) | (go_at_call 120; refine (RD _ _ (bZa (bZs (bZs hB0 hb2) hb3) _) (Blk.new _ _ _)).mono ?_; clear RD; rintro e w4 ⟨rfl, hb4⟩; have hr4 := (((hr0.below hb2).below hb3).alloc (.cells #[.bool false] 179)).below hb4; obtain ⟨r0, r1, q0, q1⟩ := hr4.two; have hB4 := bZs (bZa (bZs (bZs hB0 hb2) hb3) (.cells #[.bool false] 179)) hb4))
 refine bodyPost_ret (results_ct rfl _ _ w.heap.size 25 #[.string o1, .string o2] (0, 0) _ rfl ((hr4.set 0 (.string o1)).set 1 (.string o2)) Tryz.underlying25 rfl (by kernel_rfl)) rfl ?_
 exact ⟨rfl, bZe (bZe hB4 (Nat.le_refl _)) (Nat.le_refl _)⟩
theorem rat_Of (n d : Int) (w : World) (hp : Pow w) (h1 : -1000000000 ≤ n) (h2 : n ≤ 1000000000) (h0 : 0 < d) (h3 : d ≤ 1000000000) :
  Calls Tryz.prog 73 #[.int .i64 n, .int .i64 d] w fun e w' => e = .returned (.tuple #[rv (mkRat n d.toNat), .int .i64 0]) ∧ Below w.heap.size w w' := by
 have hB0 : Below w.heap.size w (w.alloc (.cells #[.string ⟨#[]⟩, .string ⟨#[]⟩] 25)) := bZa (Below.refl _ _) _
 have F1 := fun W h => int_FromInt n W h (by omega) (by omega)
 have F2 := fun W h => int_FromInt d W h (by omega) (by omega)
 have M := fun W h => rat_Make n d W h (Nat.lt_of_le_of_lt (show n.natAbs ≤ 1000000000 by omega) (by decide)) (Nat.lt_of_le_of_lt (show d.natAbs ≤ 1000000000 by omega) (by decide)) h0
 unfold rv at *
 generalize itx (mkRat n d.toNat).num = o1 at *
 generalize itx ((mkRat n d.toNat).den : Int) = o2 at *
 generalize itx n = s1 at *
 generalize itx d = s2 at *
 go_enter Tryz.func73, Tryz.ntmps73
 go_wp2_with (first | (go_at_call 139; refine (F1 _ (hp.below hB0)).mono ?_; clear F1; rintro e w2 ⟨rfl, hb2⟩) | (go_at_call 139; refine (F2 _ ((hp.below hB0).below hb2)).mono ?_; clear F2; rintro e w3 ⟨rfl, hb3⟩) | (go_at_call 138; refine (M _ (((hp.below hB0).below hb2).below hb3)).mono ?_; clear M; rintro e w4 ⟨rfl, hb4⟩; obtain ⟨hk, hB9⟩ := Blk.le (Below.refl _ _) (bZs (bZs hb2 hb3) hb4); obtain ⟨c0, c1, f0, f1⟩ := hk.two))
 refine bodyPost_ret (results_ct rfl _ _ w.heap.size 25 #[.string o1, .string o2] (0, 0) _ rfl ((hk.set 0 (.string o1)).set 1 (.string o2)) Tryz.underlying25 rfl (by kernel_rfl)) rfl ?_
 exact ⟨rfl, bZe (bZe hB9 (Nat.le_refl _)) (Nat.le_refl _)⟩
abbrev Sq (q : Rat) : Prop := Sm 90 q
theorem Sq.n {q : Rat} (h : Sq q) : fit q.num := fit_of h.1 (by decide)
theorem Sq.d {q : Rat} (h : Sq q) : fit (q.den : Int) := by unfold fit; rw [Int.natAbs_natCast]; exact Nat.lt_of_lt_of_le h.2 (Nat.pow_le_pow_right (by decide) (by decide))
theorem fit_mulS {x y : Int} (h1 : x.natAbs < 10 ^ 90) (h2 : y.natAbs < 10 ^ 90) : fit (x * y) := fit_of (abs_mul_lt h1 h2) (by decide)
theorem rat_Valid (q : Rat) (w : World) (hp : Pow w) (h : Sq q) :
  Calls Tryz.prog 44 #[rv q] w fun e w' => e = .returned (.bool true) ∧ Below w.heap.size w w' := by
 have V1 := fun W => int_Valid (itx q.num) W (by have := itx_size h.n; omega)
 have V2 := fun W => int_Valid (itx (q.den : Int)) W (by have := itx_size h.d; omega)
 rw [isInt_itx h.n] at V1
 rw [isInt_itx h.d] at V2
 have CM := fun W => int_Compare (q.den : Int) 0 W h.d (by decide)
 rw [show cmpI (q.den : Int) 0 = 1 by have := q.den_pos; unfold cmpI; rw [if_neg (by omega), if_neg (by omega)], show itx 0 = ⟨#[48]⟩ from rfl] at CM
 have G := fun W hp => int_Gcd q.num q.den W hp h.n h.d
 rw [Int.natAbs_natCast, show Nat.gcd q.num.natAbs q.den = 1 from q.reduced, show itx ((1 : Nat) : Int) = ⟨#[49]⟩ by rw [itx_nat, dd_1 (by decide)]; rfl] at G
 unfold rv
 generalize itx q.num = s1 at *
 generalize itx (q.den : Int) = s2 at *
 obtain ⟨hB0, hk0⟩ := news1 w #[.string s1, .string s2] 25
 go_enter Tryz.func44, Tryz.ntmps44
 go_wp2_with (first | (go_at_call 108; refine (V1 _).mono ?_; clear V1; rintro e w2 ⟨rfl, hb2⟩; have hk2 := hk0.below hb2; have c2 := hk2.cell 1) | (go_at_call 108; refine (V2 _).mono ?_; clear V2; rintro e w3 ⟨rfl, hb3⟩; have hk3 := hk2.below hb3; have c3 := hk3.cell 1) | (go_at_call 46; refine (CM _).mono ?_; clear CM; rintro e w4 ⟨rfl, hb4⟩; have hk4 := hk3.below hb4; have c4 := hk4.cell 0; have c41 := hk4.cell 1; have hB4 := bZs (bZs (bZs hB0 hb2) hb3) hb4) | (go_at_call 109; refine (G _ (hp.below hB4)).mono ?_; clear G; rintro e w5 ⟨rfl, hb5⟩))
 go_ret
 exact ⟨rfl, bZs hB4 hb5⟩
theorem rat_check (b g : Nat) (p q : Rat) (w : World) (hp : Pow w) (h1 : Sq p) (h2 : Sq q) (hk : Blk w b #[.bool false] 179) (hg : Blk w g #[.string (itx p.num), .string (itx p.den), .string (itx q.num), .string (itx q.den)] 25) :
  Calls Tryz.prog 117 #[.pointer (some ⟨b, 0, none⟩), .slice (some ⟨g, 0, none⟩) 2 2] w fun e w' => e = .returned (.tuple #[]) ∧ Below w.heap.size w w' := by
 have V1 := fun W h => rat_Valid p W h h1
 have V2 := fun W h => rat_Valid q W h h2
 unfold rv at V1 V2
 generalize itx p.num = s1 at *
 generalize itx (p.den : Int) = s2 at *
 generalize itx q.num = s3 at *
 generalize itx (q.den : Int) = s4 at *
 go_enter Tryz.func117, Tryz.ntmps117
 go_wp2
 go_loopg [8] 2 (fun k v8 w' => v8 = .int .i64 (2 - (k : Int)) ∧ k ≤ 2 ∧ Below w.heap.size w w')
 case atStart => exact ⟨rfl, Nat.le_refl _, Below.refl _ _⟩
 obtain ⟨rfl, hk2, HB⟩ := hrel
 have hkr := hk.below HB
 have hgr := hg.below HB
 have c0 := hkr.cell 0
 rcases gk with _ | _ | _ | n
 ·go_wp2
  go_end0
  exact ⟨rfl, HB⟩
 ·have d0 := hgr.cell 2
  have d1 := hgr.cell 3
  have HBA := bZa HB (.cells #[.string s3, .string s4] 25)
  have ck := (hkr.alloc (.cells #[.string s3, .string s4] 25)).cell 0
  go_wp2_with (go_at_call 44; refine (V2 _ (hp.below HBA)).mono ?_; rintro e w2 ⟨rfl, hb2⟩; have hk3 := (hkr.alloc (.cells #[.string s3, .string s4] 25)).below hb2; have c3 := hk3.cell 0; have f3 := hk3.frozen 0)
  go_roundg 0
  case measure => omega
  case rel =>
   rw [set_same_cell hk3]
   exact ⟨by go_num, by omega, bZs HBA hb2⟩
 ·have d0 := hgr.cell 0
  have d1 := hgr.cell 1
  have HBA := bZa HB (.cells #[.string s1, .string s2] 25)
  have ck := (hkr.alloc (.cells #[.string s1, .string s2] 25)).cell 0
  go_wp2_with (go_at_call 44; refine (V1 _ (hp.below HBA)).mono ?_; rintro e w2 ⟨rfl, hb2⟩; have hk3 := (hkr.alloc (.cells #[.string s1, .string s2] 25)).below hb2; have c3 := hk3.cell 0; have f3 := hk3.frozen 0)
  go_roundg 1
  case measure => omega
  case rel =>
   rw [set_same_cell hk3]
   exact ⟨by go_num, by omega, bZs HBA hb2⟩
 ·omega
end Go.Proofs.YtociicfjhgfgpaaGreatDoor

/- workpieceref03: Compare, Add, Sub, Mul, Gcd: the walks. integer: parse: the walk. integer: Valid, both: the walks. -/
import Derived.Test.YtociicfjhgfgpaaGreatDoorR11
import Derived.Test.YtociicfjhgfgpaaGreatDoorR04
import Derived.Test.YtociicfjhgfgpaaGreatDoorR08
import Derived.Test.YtociicfjhgfgpaaGreatDoorR05
import Derived.Lib.SmallJoins
set_option linter.unusedVariables false
set_option linter.unusedSimpArgs false
set_option maxHeartbeats 4000000
set_option maxRecDepth 100000
namespace Go.Proofs.YtociicfjhgfgpaaGreatDoor
open Go.RowKit Go.Proofs.YtociicfjhgfgpaaGreatDoorW.PrintWords
theorem itx_size {z : Int} (h : fit z) : (itx z).size ≤ 201 := by
 have hl := fit_len h
 unfold itx
 by_cases h0 : z.natAbs = 0
 ·rw [h0, txt_zero]; decide
 ·by_cases hz : z < 0
  ·rw [decide_eq_true hz, (txt_signed h0).size, bs_size]
   omega
  ·rw [decide_eq_false hz, txt_pos h0, bs_size]
   omega
theorem ref03_Valid_ok (z : Int) (w : World) (h : fit z) : Calls Tryz.prog 78 #[.string (itx z)] w fun e w' => e = .returned (.bool true) ∧ w = w' := by
 refine (ref03_Valid (itx z) w (by have := itx_size h; omega)).mono ?_
 rintro e w' ⟨rfl, rfl⟩
 rw [isInt_itx h]
 exact ⟨rfl, rfl⟩
theorem ref03_digits_b (b : Bool) (z : Int) (w : World) (h : fit z) (hb : decide (z < 0) = b) :
  Calls Tryz.prog 141 #[.string (itx z)] w fun e w' => ∃ v, e = .returned (.tuple #[.bool b, v]) ∧ Rd w' v (digs 10 z.natAbs) ∧ Below w.heap.size w w' := by
 have := ref03_digits z w (by have := fit_len h; omega)
 rw [hb] at this
 exact this
theorem cmpN_pos {a b : Int} (ha : ¬ a < 0) (hb : ¬ b < 0) : cmpN a.natAbs b.natAbs = cmpI a b := by
 unfold cmpN cmpI
 split <;> split <;> (try split) <;> (try split) <;> omega
theorem cmpN_neg {a b : Int} (ha : a < 0) (hb : b < 0) : cmpN b.natAbs a.natAbs = cmpI a b := by
 unfold cmpN cmpI
 split <;> split <;> (try split) <;> (try split) <;> omega
theorem cmpI_np {a b : Int} (ha : a < 0) (hb : ¬ b < 0) : cmpI a b = -1 := by
 unfold cmpI
 rw [if_pos (by omega)]
theorem cmpI_pn {a b : Int} (ha : ¬ a < 0) (hb : b < 0) : cmpI a b = 1 := by
 unfold cmpI
 rw [if_neg (by omega), if_neg (by omega)]
theorem ref03_Compare (x y : Int) (w : World) (h1 : fit x) (h2 : fit y) :
  Calls Tryz.prog 79 #[.string (itx x), .string (itx y)] w fun e w' => e = .returned (.int .i64 (cmpI x y)) ∧ Below w.heap.size w w' := by
 obtain ⟨b1, hb1⟩ : ∃ b, decide (x < 0) = b := ⟨_, rfl⟩
 obtain ⟨b2, hb2⟩ : ∃ b, decide (y < 0) = b := ⟨_, rfl⟩
 have V1 := fun W => ref03_Valid_ok x W h1
 have V2 := fun W => ref03_Valid_ok y W h2
 have D1 := fun W => ref03_digits_b b1 x W h1 hb1
 have D2 := fun W => ref03_digits_b b2 y W h2 hb2
 have O1 := ordL_digs (b := 10) (by decide) x.natAbs y.natAbs
 have O2 := ordL_digs (b := 10) (by decide) y.natAbs x.natAbs
 generalize itx x = s1 at *
 generalize itx y = s2 at *
 cases b1 with
 | false =>
  have hx := of_decide_eq_false hb1
  cases b2 with
  | false =>
   have hy := of_decide_eq_false hb2
   rw [cmpN_pos hx hy] at O1
   have E := Aside0.mk O1
   clear O1 O2 hb1 hb2 hx hy h1 h2
   go_enter Tryz.func79, Tryz.ntmps79
   go_wp2_with (first | (go_at_call 78; refine (V1 _).mono ?_; clear V1; rintro e w1 ⟨rfl, rfl⟩) | (go_at_call 78; refine (V2 _).mono ?_; clear V2; rintro e w1 ⟨rfl, rfl⟩) | (go_at_call 141; refine (D1 _).mono ?_; clear D1; rintro e w2 ⟨v2, rfl, hv2, hb2⟩) | (go_at_call 141; refine (D2 _).mono ?_; clear D2; rintro e w3 ⟨v3, rfl, hv3, hb3⟩) | (go_at_call 142; refine (ref03_order _ _ _ _ _ (hv2.below hb3) hv3).mono ?_; rintro e w4 ⟨rfl, hb4⟩))
   go_ret
   exact ⟨by rw [← E.out]; rfl, bZs (bZs hb2 hb3) hb4⟩
  | true =>
   have E := Aside0.mk (cmpI_pn hx (of_decide_eq_true hb2))
   clear O1 O2 hb1 hb2 hx h1 h2
   go_enter Tryz.func79, Tryz.ntmps79
   go_wp2_with (first | (go_at_call 78; refine (V1 _).mono ?_; clear V1; rintro e w1 ⟨rfl, rfl⟩) | (go_at_call 78; refine (V2 _).mono ?_; clear V2; rintro e w1 ⟨rfl, rfl⟩) | (go_at_call 141; refine (D1 _).mono ?_; clear D1; rintro e w2 ⟨v2, rfl, hv2, hb2⟩) | (go_at_call 141; refine (D2 _).mono ?_; clear D2; rintro e w3 ⟨v3, rfl, hv3, hb3⟩))
   go_ret
   exact ⟨by rw [E.out]; rfl, bZs hb2 hb3⟩
 | true =>
  have hx := of_decide_eq_true hb1
  cases b2 with
  | false =>
   have E := Aside0.mk (cmpI_np hx (of_decide_eq_false hb2))
   clear O1 O2 hb1 hb2 hx h1 h2
   go_enter Tryz.func79, Tryz.ntmps79
   go_wp2_with (first | (go_at_call 78; refine (V1 _).mono ?_; clear V1; rintro e w1 ⟨rfl, rfl⟩) | (go_at_call 78; refine (V2 _).mono ?_; clear V2; rintro e w1 ⟨rfl, rfl⟩) | (go_at_call 141; refine (D1 _).mono ?_; clear D1; rintro e w2 ⟨v2, rfl, hv2, hb2⟩) | (go_at_call 141; refine (D2 _).mono ?_; clear D2; rintro e w3 ⟨v3, rfl, hv3, hb3⟩))
   go_ret
   exact ⟨by rw [E.out]; rfl, bZs hb2 hb3⟩
  | true =>
   rw [cmpN_neg hx (of_decide_eq_true hb2)] at O2
   have E := Aside0.mk O2
   clear O1 O2 hb1 hb2 hx h1 h2
   go_enter Tryz.func79, Tryz.ntmps79
   go_wp2_with (first | (go_at_call 78; refine (V1 _).mono ?_; clear V1; rintro e w1 ⟨rfl, rfl⟩) | (go_at_call 78; refine (V2 _).mono ?_; clear V2; rintro e w1 ⟨rfl, rfl⟩) | (go_at_call 141; refine (D1 _).mono ?_; clear D1; rintro e w2 ⟨v2, rfl, hv2, hb2⟩) | (go_at_call 141; refine (D2 _).mono ?_; clear D2; rintro e w3 ⟨v3, rfl, hv3, hb3⟩) | (go_at_call 142; refine (ref03_order _ _ _ _ _ hv3 (hv2.below hb3)).mono ?_; rintro e w4 ⟨rfl, hb4⟩))
   go_ret
   exact ⟨by rw [← E.out]; rfl, bZs (bZs hb2 hb3) hb4⟩
end Go.Proofs.YtociicfjhgfgpaaGreatDoor
namespace Go.Proofs.YtociicfjhgfgpaaGreatDoor
open Go.RowKit Go.Proofs.YtociicfjhgfgpaaGreatDoorW.PrintWords Lib
def bst (l : List UInt8) : ByteArray := ⟨l.toArray⟩
theorem bst_size (l : List UInt8) : (bst l).size = l.length := by simp [bst, ByteArray.size]
theorem bst_data (l : List UInt8) : (bst l).data.toList = l := by simp [bst]
theorem bst_extract (l : List UInt8) (a b : Nat) : (bst l).extract a b = bst ((l.drop a).take (b - a)) := by
 apply ByteArray.ext
 apply Array.toList_inj.1
 rw [Lib.extract_data, bst_data, bst_data]
theorem bare_itoa (z : Int) : bare (itoa z) = decDigits z.natAbs := by
 unfold itoa
 by_cases h : z < 0
 ·rw [if_pos h]; rfl
 ·rw [if_neg h]
  have e : z.toNat = z.natAbs := by omega
  rw [e]
  unfold bare
  rw [if_neg]
  by_cases hx : z.natAbs = 0
  ·rw [hx, dd_1 (by decide)]; decide
  ·have := bs_dd z.natAbs (by omega)
   obtain ⟨c, t, he, _, h2⟩ := bs_head hx
   rw [← this, he]
   intro e
   apply h2
   have : c = 45 := by simpa using e
   rw [this]; rfl
theorem dd_cut (y : Nat) : ∃ (f m : Nat) (c r : List UInt8), (decDigits y).length = m ∧ 0 < m ∧ f ≤ m ∧ ((m : Int) - 4 ≤ 0 → f = 0) ∧ (0 < (m : Int) - 4 → (f : Int) = (m : Int) - 4) ∧ (decDigits y).drop f = c ∧ (decDigits y).take f = r ∧
  atoiAll c = .ok ((y % 10000 : Nat) : Int) ∧ c.length ≤ 4 ∧ ((r = [] ∧ y < 10000) ∨ (r = decDigits (y / 10000) ∧ 10000 ≤ y)) := by
 by_cases h : y < 10000
 ·obtain ⟨h1, h2, _⟩ := dd_small h
  refine ⟨0, _, decDigits y, [], rfl, h1, by omega, fun _ => rfl, fun h => by omega, by simp, by simp, ?_, h2, .inl ⟨rfl, h⟩⟩
  rw [Nat.mod_eq_of_lt h]
  exact atoi_dd h
 ·obtain ⟨h1, h2⟩ := dd_len_big (y := y) (by omega)
  have hp : 0 < (decDigits (y / 10000)).length := by
   rw [decDigits_length]
   have := nDigits_pos (y / 10000)
   omega
  have h4 : (pad4 (y % 10000)).length = 4 := rfl
  refine ⟨(decDigits (y / 10000)).length, (decDigits (y / 10000)).length + 4, pad4 (y % 10000), decDigits (y / 10000), ?_, by omega, by omega, fun h => by omega, fun _ => by omega, ?_, ?_, ?_, Nat.le_refl _, .inr ⟨rfl, by omega⟩⟩
  ·rw [h1, List.length_append, h4]
  ·rw [h1, List.drop_left]
  ·rw [h1, List.take_left]
  ·exact atoi_pad (Nat.mod_lt _ (by decide))
theorem dd_len {y : Nat} (h : y < 10 ^ 200) : (decDigits y).length ≤ 200 := by
 by_cases h0 : y = 0
 ·rw [h0, dd_1 (by decide)]; decide
 ·have h1 := congrArg List.length (bs_dd y (by omega))
  rw [List.length_map, asc_len] at h1
  rw [← h1]
  exact digs_len_le (by decide) h
def ParseI (x k j : Nat) (T : List UInt8) : Prop := (T = [] ∧ x < 10000 ^ j ∧ k = 0) ∨ (T = decDigits (x / 10000 ^ j) ∧ k = x / 10000 ^ j + 1 ∧ (j = 0 ∨ 0 < x / 10000 ^ j))
theorem parse_few {x j : Nat} (hx : x < 10 ^ 200) (h : j = 0 ∨ 0 < x / 10000 ^ j) : j ≤ 50 := by
 rcases h with h | h
 ·omega
 ·rcases Nat.lt_or_ge 50 j with h2 | h2
  ·exfalso
   have h3 : (10 : Nat) ^ 204 ≤ 10000 ^ j := by
    rw [show (10000 : Nat) = 10 ^ 4 from rfl, ← Nat.pow_mul]
    exact Nat.pow_le_pow_right (by decide) (by omega)
   have h4 : x < 10000 ^ j := Nat.lt_of_lt_of_le hx (Nat.le_trans (Nat.pow_le_pow_right (by decide) (by decide)) h3)
   rw [Nat.div_eq_of_lt h4] at h
   omega
  ·exact h2
theorem int_parse (z : Int) (w : World) (hz : fit z) :
  Calls Tryz.prog 163 #[.string (itx z)] w fun e w' => ∃ v, e = .returned (.agg #[.bool (decide (z < 0)), v]) ∧ Rd w' v (digs 10000 z.natAbs) ∧ Below w.heap.size w w' ∧ (∀ k, v.ownBlock = some k → w.heap.size ≤ k) := by
 obtain ⟨x, hx⟩ : ∃ x, z.natAbs = x := ⟨_, rfl⟩
 have P1 := fun W => Lz.strings_TrimPrefix (itx z) ⟨#[45]⟩ W
 rw [show ((⟨#[45]⟩ : ByteArray).data.toList) = [45] from rfl, bare_prefix, itx_itoa, bare_itoa, hx] at P1
 have hsz := itx_size hz
 have hneg : decide ((decDigits x).length < (itx z).size) = decide (z < 0) := by
  have : (itx z).size = (itoa z).length := by rw [← itx_itoa, size_data]
  rw [this]
  unfold itoa
  by_cases h : z < 0
  ·rw [if_pos h, List.length_cons, hx, decide_eq_true h, decide_eq_true (by omega)]
  ·rw [if_neg h, decide_eq_false h, show z.toNat = x by omega, decide_eq_false (by omega)]
 have hxf : x < 10 ^ 200 := by rw [← hx]; exact hz
 generalize itx z = s at *
 generalize decide (z < 0) = neg at *
 rw [hx]
 clear hx hz
 have hB0 : Below w.heap.size w ((w.alloc (.cells #[.bool false, .slice none 0 0] 168)).alloc (.cells #[.bool neg, .slice none 0 0] 168)) := bZa (bZa (Below.refl _ _) _) _
 have hk0 : Blk ((w.alloc (.cells #[.bool false, .slice none 0 0] 168)).alloc (.cells #[.bool neg, .slice none 0 0] 168)) w.heap.size #[.bool false, .slice none 0 0] 168 := (Blk.new w _ _).alloc _
 have hk1 : Blk ((w.alloc (.cells #[.bool false, .slice none 0 0] 168)).alloc (.cells #[.bool neg, .slice none 0 0] 168)) (w.heap.size + 1) #[.bool neg, .slice none 0 0] 168 := by
  have := Blk.new (w.alloc (.cells #[.bool false, .slice none 0 0] 168)) #[.bool neg, .slice none 0 0] 168
  rwa [World.size_alloc] at this
 have HK := Aside0.mk (And.intro hk0 (And.intro hk1 hB0))
 clear hk0 hk1 hB0
 have P2 : ∀ W, Calls Tryz.prog 197 #[.string s, .string ⟨#[45]⟩] W fun e w' => e = .returned (.string (bst (decDigits x))) ∧ w' = W := P1
 have hb0 := bst_size (decDigits x)
 clear P1
 go_enter Tryz.func163, Tryz.ntmps163
 go_wp2_with (go_at_call 197; refine (P2 _).mono ?_; clear P2; rintro e w2 ⟨rfl, rfl⟩)
 go_loopg [3] (x + 1) (fun k v3 w' => ∃ j T v, v3 = .string (bst T) ∧ Aside0 (ParseI x k j T) ∧ Blk w' w.heap.size #[.bool false, .slice none 0 0] 168 ∧ Blk w' (w.heap.size + 1) #[.bool neg, v] 168 ∧ Own w' w.heap.size v (low 10000 x j) ∧ Below w.heap.size w w')
 case atStart => exact ⟨0, _, _, rfl, ⟨.inr ⟨by simp, by simp, .inl rfl⟩⟩, HK.out.1, HK.out.2.1, Own.nil _ _, HK.out.2.2⟩
 clear hb0 HK
 obtain ⟨j, T, v, rfl, HI, hk0, hk1, HO, HB⟩ := hrel
 have hts := bst_size T
 have hc1 := hk1.cell 1
 have hf1 := hk1.frozen 1
 by_cases hT : T = []
 ·subst hT
  have HL : Aside0 (trimL (low 10000 x j) = digs 10000 x) := ⟨by
   rw [trim_low (by decide)]
   rcases HI.out with ⟨_, h1, _⟩ | ⟨h1, _⟩
   ·rw [Nat.mod_eq_of_lt h1]
   ·exfalso
    have h2 : (decDigits (x / 10000 ^ j)).length = 0 := by rw [← h1]; rfl
    rw [decDigits_length] at h2
    have := nDigits_pos (x / 10000 ^ j)
    omega⟩
  have HOr := HO.rd
  have HOB := Aside0.mk HO.base
  have HNB : Aside0 ((some (w.heap.size + 1) ≠ v.ownBlock) ∧ (some w.heap.size ≠ v.ownBlock)) := ⟨HO.not_blk hk1 (by decide), HO.not_blk hk0 (by decide)⟩
  have hc10 := hk1.cell 0
  have hc00 := hk0.cell 0
  have hc01 := hk0.cell 1
  have hf00 := hk0.frozen 0
  have hf01 := hk0.frozen 1
  clear HO
  go_wp2_with (go_at_call 165; refine (int_trimmed _ _ _ HOr).mono ?_; rintro e w3 ⟨v3, rfl, hv3, rfl, hown3⟩; have HV3 := Aside0.mk hv3; obtain ⟨A3, c3, rfl, -, -⟩ := hv3)
  have n1 := HNB.out.1
  have n0 := HNB.out.2
  rw [← hown3] at n1 n0
  refine bodyPost_ret (results_cell_row rfl _ _ w.heap.size 168 #[.bool neg, .slice A3 (trimL (low 10000 x j)).length c3] (0, 0) _ rfl (((hk0.far (by simp) _).set 0 _).set 1 _) Tryz.underlying168 rfl (by kernel_rfl)) rfl ?_
  refine ⟨_, rfl, ?_, bZe (bZe (bZe HB (Nat.le_succ _)) (Nat.le_refl _)) (Nat.le_refl _), fun k hk => HOB.out k (by rw [← hown3]; exact hk)⟩
  rw [← HL.out]
  exact ((HV3.out.set n1 1 _).set n0 0 _).set n0 1 _
 ·obtain ⟨y, hy⟩ : ∃ y, x / 10000 ^ j = y := ⟨_, rfl⟩
  have hTd : T = decDigits y ∧ gk = y + 1 ∧ (j = 0 ∨ 0 < x / 10000 ^ j) := by
   rcases HI.out with ⟨h1, _⟩ | h1
   ·exact absurd h1 hT
   ·rw [hy] at h1 ⊢
    exact h1
  obtain ⟨rfl, hgk, hj0⟩ := hTd
  have hj50 := parse_few hxf hj0
  obtain ⟨f, m, c, r, h1, h2, h3, h4, h5, h6, h7, h8, h9, h10⟩ := dd_cut y
  rw [h1] at hts
  have hm201 : m ≤ 200 := by rw [← h1]; exact dd_len (Nat.lt_of_le_of_lt (by rw [← hy]; exact Nat.div_le_self _ _) hxf)
  have hcx : (bst (decDigits y)).extract f m = bst c := by rw [bst_extract, h6, List.take_of_length_le (by rw [← h6, List.length_drop]; omega)]
  have hrx : (bst (decDigits y)).extract 0 f = bst r := by rw [bst_extract, List.drop_zero, Nat.sub_zero, h7]
  have A1 := fun W => Lz.strconv_Atoi_ok (bst c) (by rw [bst_size]; omega) _ (by rw [bst_data]; exact h8) W
  have HI2 : Aside0 (∃ k', k' < gk ∧ ParseI x k' (j + 1) r) := ⟨by
   have e : x / 10000 ^ (j + 1) = y / 10000 := by rw [Nat.pow_succ, ← Nat.div_div_eq_div_mul, hy]
   rcases h10 with ⟨g1, g2⟩ | ⟨g1, g2⟩
   ·refine ⟨0, by omega, .inl ⟨g1, ?_, rfl⟩⟩
    have : x / 10000 ^ (j + 1) = 0 := by rw [e]; omega
    rcases Nat.lt_or_ge x (10000 ^ (j + 1)) with q | q
    ·exact q
    ·have := Nat.div_pos q (Nat.pow_pos (by decide)); omega
   ·exact ⟨y / 10000 + 1, by omega, .inr ⟨by rw [e]; exact g1, by rw [e], .inr (by rw [e]; omega)⟩⟩⟩
  have HS : Aside0 (low 10000 x j ++ [((y % 10000 : Nat) : Int)] = low 10000 x (j + 1)) := ⟨by rw [low_succ, hy]⟩
  have HN : Aside0 ((low 10000 x j).length < 17592186044415) := ⟨by rw [low_len]; omega⟩
  obtain ⟨q, hq⟩ : ∃ q : Nat, y % 10000 = q := ⟨_, rfl⟩
  have hq9 : q < 10000 := by omega
  rw [hq] at A1 HS
  have HO2 := Aside0.mk HO
  obtain ⟨A0, c0, rfl, -, -⟩ := HO.rd
  clear HO hj0 h1 h6 h7 h8 h9 h10 hy hq HI hT hgk
  generalize bst (decDigits y) = t at *
  by_cases hm4 : 0 < (m : Int) - 4
  ·have hf := h5 hm4
   have hf2 : (m : Int) - 4 = (f : Int) := hf.symm
   have hwf : max 0 (wrap64 (f : Int)) = (f : Int) := by unfold wrap64; omega
   have hf3 : (f : Int) ≤ (m : Int) := by omega
   clear h4 h5 hf
   go_wp2_with (first | (go_at_call 199; refine (A1 _).mono ?_; clear A1; rintro e w2 ⟨rfl, hw2⟩; have hb2 : Below wr.heap.size wr w2 := (hw2.elim (fun e => by rw [e]; exact Below.refl _ _) (fun ⟨t, e⟩ => by rw [e]; exact Lib.bytesWorld_below _ _ _)); have hk2 := hk1.below hb2; have hcc := hk2.cell 1; have hff := hk2.frozen 1) | (at_builtin; refine app1 (w0 := w) w.heap.size (.tmp 31) (.tmp 33) 166 rfl rfl Tryz.underlying166 _ _ _ rfl rfl (HO2.out.below hb2) (bZs HB hb2) (bZs HB hb2).size HN.out ?_; intro v3 w3 ho3 hb3 hg3; have HO3 := Aside0.mk ho3; have hk3 := hk2.kept hg3 ((HO2.out.below hb2).not_blk hk2 (by decide)); have hk03 := (hk0.below hb2).kept hg3 ((HO2.out.below hb2).not_blk (hk0.below hb2) (by decide)); have hcd := hk3.cell 1; have hfd := hk3.frozen 1; obtain ⟨A3, c3, rfl, -, -⟩ := ho3.rd))
   obtain ⟨k', hk', hPI⟩ := HI2.out
   clear hg3
   go_roundg k'
   case measure => exact hk'
   case rel => exact ⟨j + 1, r, _, rfl, ⟨hPI⟩, hk03.far (by simp) _, hk3.set 1 _, by rw [← HS.out]; have h9 := HO3.out.set hk3 (by decide) 1 (.slice A3 ((low 10000 x j).length + 1) c3); rw [List.length_append] at h9; exact h9, bZe hb3 (Nat.le_succ _)⟩
  ·obtain rfl : f = 0 := h4 (by omega)
   have htc : bst c = t := by
    rw [← hcx]
    apply ByteArray.ext
    apply Array.toList_inj.1
    rw [Lib.extract_data, List.drop_zero, List.take_of_length_le (by rw [size_data]; omega)]
   rw [htc] at A1 hcx
   have hwf : max 0 (wrap64 ((m : Int) - 4)) = 0 := by unfold wrap64; omega
   have HR0 : Aside0 (ByteArray.empty = bst r) := ⟨by
    rw [← hrx]
    apply ByteArray.ext
    apply Array.toList_inj.1
    rw [Lib.extract_data]
    rfl⟩
   have hwf2 : max 0 ((m : Int) - 4) = 0 := by omega
   clear h4 h5
   go_wp2_with (first | (go_at_call 199; refine (A1 _).mono ?_; clear A1; rintro e w2 ⟨rfl, hw2⟩; have hb2 : Below wr.heap.size wr w2 := (hw2.elim (fun e => by rw [e]; exact Below.refl _ _) (fun ⟨t, e⟩ => by rw [e]; exact Lib.bytesWorld_below _ _ _)); have hk2 := hk1.below hb2; have hcc := hk2.cell 1; have hff := hk2.frozen 1) | (at_builtin; refine app1 (w0 := w) w.heap.size (.tmp 31) (.tmp 33) 166 rfl rfl Tryz.underlying166 _ _ _ rfl rfl (HO2.out.below hb2) (bZs HB hb2) (bZs HB hb2).size HN.out ?_; intro v3 w3 ho3 hb3 hg3; have HO3 := Aside0.mk ho3; have hk3 := hk2.kept hg3 ((HO2.out.below hb2).not_blk hk2 (by decide)); have hk03 := (hk0.below hb2).kept hg3 ((HO2.out.below hb2).not_blk (hk0.below hb2) (by decide)); have hcd := hk3.cell 1; have hfd := hk3.frozen 1; obtain ⟨A3, c3, rfl, -, -⟩ := ho3.rd))
   obtain ⟨k', hk', hPI⟩ := HI2.out
   clear hg3
   go_roundg k'
   case measure => exact hk'
   case rel => exact ⟨j + 1, r, _, congrArg Value.string HR0.out, ⟨hPI⟩, hk03.far (by simp) _, hk3.set 1 _, by rw [← HS.out]; have h9 := HO3.out.set hk3 (by decide) 1 (.slice A3 ((low 10000 x j).length + 1) c3); rw [List.length_append] at h9; exact h9, bZe hb3 (Nat.le_succ _)⟩
end Go.Proofs.YtociicfjhgfgpaaGreatDoor
namespace Go.Proofs.YtociicfjhgfgpaaGreatDoor
open Go.RowKit Go.Proofs.YtociicfjhgfgpaaGreatDoorW.PrintWords
theorem int_Valid (s : ByteArray) (w : World) (hsz : s.size < 4611686018427387904) :
  Calls Tryz.prog 108 #[.string s] w fun e w' => e = .returned (.bool (isInt s)) ∧ Below w.heap.size w w' := by
 have V := fun W => int_isValid s W hsz
 go_enter Tryz.func108, Tryz.ntmps108
 go_wp2_with (go_at_call 162; refine (V _).mono ?_; clear V; rintro e w2 ⟨rfl, hb2⟩)
 go_ret
 exact ⟨rfl, hb2⟩
theorem int_isValid_ok (z : Int) (w : World) (h : fit z) : Calls Tryz.prog 162 #[.string (itx z)] w fun e w' => e = .returned (.bool true) ∧ Below w.heap.size w w' := by
 have := int_isValid (itx z) w (by have := itx_size h; omega)
 rw [isInt_itx h] at this
 exact this
theorem int_both (x y : Int) (w : World) (h1 : fit x) (h2 : fit y) :
  Calls Tryz.prog 110 #[.string (itx x), .string (itx y)] w fun e w' => ∃ u v, e = .returned (.tuple #[.agg #[.bool (decide (x < 0)), u], .agg #[.bool (decide (y < 0)), v], .bool true]) ∧ Rd w' u (digs 10000 x.natAbs) ∧ Rd w' v (digs 10000 y.natAbs) ∧ Below w.heap.size w w' := by
 have V1 := fun W => int_isValid_ok x W h1
 have V2 := fun W => int_isValid_ok y W h2
 have P1 := fun W => int_parse x W h1
 have P2 := fun W => int_parse y W h2
 generalize itx x = s1 at *
 generalize itx y = s2 at *
 generalize decide (x < 0) = n1 at *
 generalize decide (y < 0) = n2 at *
 have hk0 : Blk ((w.alloc (.cells #[.bool false, .slice none 0 0] 168)).alloc (.cells #[.bool false, .slice none 0 0] 168)) w.heap.size #[.bool false, .slice none 0 0] 168 := (Blk.new w _ _).alloc _
 have hk1 : Blk ((w.alloc (.cells #[.bool false, .slice none 0 0] 168)).alloc (.cells #[.bool false, .slice none 0 0] 168)) (w.heap.size + 1) #[.bool false, .slice none 0 0] 168 := by
  have := Blk.new (w.alloc (.cells #[.bool false, .slice none 0 0] 168)) #[.bool false, .slice none 0 0] 168
  rwa [World.size_alloc] at this
 have hB0 : Below w.heap.size w ((w.alloc (.cells #[.bool false, .slice none 0 0] 168)).alloc (.cells #[.bool false, .slice none 0 0] 168)) := bZa (bZa (Below.refl _ _) _) _
 have HK := Aside0.mk (And.intro hk0 (And.intro hk1 hB0))
 clear hk0 hk1 hB0
 go_enter Tryz.func110, Tryz.ntmps110
 go_wp2_with (first | (go_at_call 162; refine (V1 _).mono ?_; clear V1; rintro e w2 ⟨rfl, hb2⟩) | (go_at_call 162; refine (V2 _).mono ?_; clear V2; rintro e w3 ⟨rfl, hb3⟩) | (go_at_call 163; refine (P1 _).mono ?_; clear P1; rintro e w4 ⟨v4, rfl, hv4, hb4, hw4⟩; have HV4 := Aside0.mk hv4; obtain ⟨A4, c4, rfl, -, -⟩ := hv4) | (go_at_call 163; refine (P2 _).mono ?_; clear P2; rintro e w5 ⟨v5, rfl, hv5, hb5, hw5⟩; have HV5 := Aside0.mk hv5; obtain ⟨A5, c5, rfl, -, -⟩ := hv5; have HB5 := bZs (bZs (bZs hb2 hb3) hb4) hb5; have hk0 := HK.out.1.below HB5; have hk1 := HK.out.2.1.below HB5; have a0 := hk0.cell 0; have a1 := hk0.cell 1; have b0 := hk1.cell 0; have b1 := hk1.cell 1; have f0 := hk0.frozen 0; have f1 := hk0.frozen 1; have g0 := hk1.frozen 0; have g1 := hk1.frozen 1))
 have hB5 := bZs HK.out.2.2 HB5
 have z2 := hb2.size
 have z3 := hb3.size
 have z4 := hb4.size
 rw [World.size_alloc, World.size_alloc] at z2
 have m40 : some w.heap.size ≠ (Value.slice A4 (digs 10000 x.natAbs).length c4).ownBlock := fun e => by have := hw4 _ e.symm; omega
 have m41 : some (w.heap.size + 1) ≠ (Value.slice A4 (digs 10000 x.natAbs).length c4).ownBlock := fun e => by have := hw4 _ e.symm; omega
 have m50 : some w.heap.size ≠ (Value.slice A5 (digs 10000 y.natAbs).length c5).ownBlock := fun e => by have := hw5 _ e.symm; omega
 have m51 : some (w.heap.size + 1) ≠ (Value.slice A5 (digs 10000 y.natAbs).length c5).ownBlock := fun e => by have := hw5 _ e.symm; omega
 have K0 := (((hk0.set 0 (.bool n1)).set 1 (.slice A4 (digs 10000 x.natAbs).length c4)).far (p := ⟨w.heap.size + 1, 0, none⟩) (by simp) (.bool n2)).far (p := ⟨w.heap.size + 1, 1, none⟩) (by simp) (.slice A5 (digs 10000 y.natAbs).length c5)
 have K1 := (((hk1.far (p := ⟨w.heap.size, 0, none⟩) (by simp) (.bool n1)).far (p := ⟨w.heap.size, 1, none⟩) (by simp) (.slice A4 (digs 10000 x.natAbs).length c4)).set 0 (.bool n2)).set 1 (.slice A5 (digs 10000 y.natAbs).length c5)
 refine bodyPost_ret (results_list (rs := [.cell 4 168, .cell 5 168, .tmp 6]) rfl (by simp) (.cell w.heap.size 168 #[.bool n1, .slice A4 (digs 10000 x.natAbs).length c4] (0, 0) _ rfl K0 Tryz.underlying168 rfl (by kernel_rfl) (.cell (w.heap.size + 1) 168 #[.bool n2, .slice A5 (digs 10000 y.natAbs).length c5] (0, 0) _ rfl K1 Tryz.underlying168 rfl (by kernel_rfl) (.tmp .nil)))) rfl ?_
 exact ⟨_, _, rfl, ((((HV4.out.below hb5).set m40 0 _).set m40 1 _).set m41 0 _).set m41 1 _, (((HV5.out.set m50 0 _).set m50 1 _).set m51 0 _).set m51 1 _, bZe (bZe (bZe (bZe hB5 (Nat.le_refl _)) (Nat.le_refl _)) (Nat.le_succ _)) (Nat.le_succ _)⟩
end Go.Proofs.YtociicfjhgfgpaaGreatDoor

/- PlannerReaches: beyond, near: the walks. slices.SortFunc of two fractions in order; mill: around: the walks. mill: around: the walk. -/
import Derived.Test.YtociicfjhgfgpaaGreatDoorR40
import Derived.Test.YtociicfjhgfgpaaGreatDoorR37
import Derived.Test.YtociicfjhgfgpaaGreatDoorR33
import Derived.Test.YtociicfjhgfgpaaGreatDoorR20
import Derived.Test.YtociicfjhgfgpaaGreatDoorR22
set_option linter.unusedVariables false
set_option linter.unusedSimpArgs false
set_option maxHeartbeats 16000000
set_option maxRecDepth 100000
namespace Go.Proofs.YtociicfjhgfgpaaGreatDoor
open Go.RowKit Go.Shelf Go.Lib Go.Proofs.YtociicfjhgfgpaaGreatDoorW.PrintWords
theorem cmp_gt1 {p q : Rat} (h : q < p) : cmpR p q = 1 := by
 unfold cmpR
 rw [if_neg (by grind), if_neg (by grind)]
theorem cmp_lt1 {p q : Rat} (h : p < q) : cmpR p q = -1 := by
 unfold cmpR
 rw [if_pos h]
theorem cmp_nlt {p q : Rat} (h : ¬ p < q) : (cmpR p q < 0) = False := eq_false (by
 unfold cmpR
 rw [if_neg h]
 split <;> omega)
theorem cmp_ngt {p q : Rat} (h : ¬ q < p) : (0 < cmpR p q) = False := eq_false (by
 unfold cmpR
 split
 ·omega
 ·split
  ·omega
  ·rename_i h1 h2
   exact absurd (by grind) h)
theorem lw_beyond (x a b : Rat) (w : World) (hp : Pow w) (hx : Sq x) (ha : Sq a) (hb' : Sq b) :
  Calls Tryz.prog 50 #[rv x, rv a, rv b] w fun e w' => e = .returned (rv (beyR x a b)) ∧ Below w.heap.size w w' := by
 have R0 := fun W => lw_ratio 0 1 W (by decide) (by decide) (by decide) (by decide)
 rw [show mkRat 0 (1 : Int).toNat = 0 from rfl, rv_zero] at R0
 have C1 := fun W hp => rat_Compare x a W hp hx ha
 have C2 := fun W hp => rat_Compare x b W hp hx hb'
 have S1 := fun W hp => rat_Sub a x W hp ha hx
 have S2 := fun W hp => rat_Sub x b W hp hx hb'
 clear hx ha hb'
 rcases Classical.em (x < a) with h1 | h1 <;> rcases Classical.em (b < x) with h2 | h2
 ·rw [show beyR x a b = x - b from by unfold beyR; rw [if_pos h2]]
  rw [cmp_lt1 h1] at C1
  rw [cmp_gt1 h2] at C2
  clear h1 h2
  unfold rv at *
  generalize a - x = s at *
  generalize x - b = t at *
  generalize itx x.num = x1 at *
  generalize itx (x.den : Int) = x2 at *
  generalize itx a.num = a1 at *
  generalize itx (a.den : Int) = a2 at *
  generalize itx b.num = b1 at *
  generalize itx (b.den : Int) = b2 at *
  generalize itx s.num = s1 at *
  generalize itx (s.den : Int) = s2 at *
  generalize itx t.num = t1 at *
  generalize itx (t.den : Int) = t2 at *
  obtain ⟨hB0, k0, k1, k2, k3⟩ := news4 w #[.string x1, .string x2] 25 #[.string a1, .string a2] 25 #[.string b1, .string b2] 25 #[.string ⟨#[]⟩, .string ⟨#[]⟩] 25
  have x0 := k0.c0
  have x1_ := k0.c1
  have a0 := k1.c0
  have a1_ := k1.c1
  have b0 := k2.c0
  have b1_ := k2.c1
  go_enter Tryz.func50, Tryz.ntmps50
  go_wp2_with ((first | (go_at_call 8; refine (R0 _).mono ?_; clear R0; rintro e w1 ⟨rfl, hb⟩; have hleD := bZz (bZs hB0 hb); have nk0 := Nat.ne_of_lt (k0.below hb).lt; have nk1 := Nat.ne_of_lt (k1.below hb).lt; have nk2 := Nat.ne_of_lt (k2.below hb).lt; have nk3 := Nat.ne_of_lt (k3.below hb).lt; replace hb := bZa hb (.cells #[.string ⟨#[48]⟩, .string ⟨#[49]⟩] 25); have KD := Blk.new w1 #[.string ⟨#[48]⟩, .string ⟨#[49]⟩] 25) | (go_at_call 18; refine (C1 _ (hp.below hB0)).mono ?_; clear C1; rintro e w2 ⟨rfl, hb⟩) | (go_at_call 20; refine (S1 _ (hp.below hB0)).mono ?_; clear S1; rintro e w3 ⟨rfl, hb⟩; replace k0 := k0.below hb; replace k1 := k1.below hb; replace k2 := k2.below hb; replace k3 := k3.below hb; replace KD := KD.below hb; replace hB0 := bZs hB0 hb; replace x0 := k0.c0; replace x1_ := k0.c1; replace a0 := k1.c0; replace a1_ := k1.c1; replace b0 := k2.c0; replace b1_ := k2.c1; obtain ⟨_, _, f0, f1⟩ := KD.two; replace k0 := (k0.far (p := ⟨w1.heap.size, 0, none⟩) nk0 (.string s1)).far (p := ⟨w1.heap.size, 1, none⟩) nk0 (.string s2); replace k1 := (k1.far (p := ⟨w1.heap.size, 0, none⟩) nk1 (.string s1)).far (p := ⟨w1.heap.size, 1, none⟩) nk1 (.string s2); replace k2 := (k2.far (p := ⟨w1.heap.size, 0, none⟩) nk2 (.string s1)).far (p := ⟨w1.heap.size, 1, none⟩) nk2 (.string s2); replace k3 := (k3.far (p := ⟨w1.heap.size, 0, none⟩) nk3 (.string s1)).far (p := ⟨w1.heap.size, 1, none⟩) nk3 (.string s2); replace KD : Blk ((w3.setCell ⟨w1.heap.size, 0, none⟩ (.string s1)).setCell ⟨w1.heap.size, 1, none⟩ (.string s2)) w1.heap.size #[.string s1, .string s2] 25 := (KD.set 0 (.string s1)).set 1 (.string s2); replace hB0 := bZe (j := 1) (v := .string s2) (bZe (j := 0) (v := .string s1) hB0 hleD) hleD) | (go_at_call 18; refine (C2 _ (hp.below hB0)).mono ?_; clear C2; rintro e w4 ⟨rfl, hb⟩) | (go_at_call 20; refine (S2 _ (hp.below hB0)).mono ?_; clear S2; rintro e w5 ⟨rfl, hb⟩; replace k0 := k0.below hb; replace k1 := k1.below hb; replace k2 := k2.below hb; replace k3 := k3.below hb; replace KD := KD.below hb; replace hB0 := bZs hB0 hb; replace x0 := k0.c0; replace x1_ := k0.c1; replace a0 := k1.c0; replace a1_ := k1.c1; replace b0 := k2.c0; replace b1_ := k2.c1; obtain ⟨_, _, f0, f1⟩ := KD.two; replace k0 := (k0.far (p := ⟨w1.heap.size, 0, none⟩) nk0 (.string t1)).far (p := ⟨w1.heap.size, 1, none⟩) nk0 (.string t2); replace k1 := (k1.far (p := ⟨w1.heap.size, 0, none⟩) nk1 (.string t1)).far (p := ⟨w1.heap.size, 1, none⟩) nk1 (.string t2); replace k2 := (k2.far (p := ⟨w1.heap.size, 0, none⟩) nk2 (.string t1)).far (p := ⟨w1.heap.size, 1, none⟩) nk2 (.string t2); replace k3 := (k3.far (p := ⟨w1.heap.size, 0, none⟩) nk3 (.string t1)).far (p := ⟨w1.heap.size, 1, none⟩) nk3 (.string t2); replace KD : Blk ((w5.setCell ⟨w1.heap.size, 0, none⟩ (.string t1)).setCell ⟨w1.heap.size, 1, none⟩ (.string t2)) w1.heap.size #[.string t1, .string t2] 25 := (KD.set 0 (.string t1)).set 1 (.string t2); replace hB0 := bZe (j := 1) (v := .string t2) (bZe (j := 0) (v := .string t1) hB0 hleD) hleD; obtain ⟨_, _, u0, u1⟩ := k3.two)); (try replace k0 := k0.below hb); (try replace k1 := k1.below hb); (try replace k2 := k2.below hb); (try replace k3 := k3.below hb); (try replace KD := KD.below hb); (try replace hB0 := bZs hB0 hb); clear hb; replace x0 := k0.c0; replace x1_ := k0.c1; replace a0 := k1.c0; replace a1_ := k1.c1; replace b0 := k2.c0; replace b1_ := k2.c1; replace kd0 := KD.c0; replace kd1 := KD.c1)
  refine bodyPost_ret (rZs rfl (.cell (w.heap.size + 3) 25 #[.string t1, .string t2] (0, 0) _ rfl ((k3.set 0 (.string t1)).set 1 (.string t2)) Tryz.underlying25 rfl (by kernel_rfl) .nil)) rfl ?_
  exact ⟨rfl, bZe (bZe hB0 (Nat.le_add_right w.heap.size 3)) (Nat.le_add_right w.heap.size 3)⟩
 ·rw [show beyR x a b = a - x from by unfold beyR; rw [if_neg h2, if_pos h1]]
  rw [cmp_lt1 h1] at C1
  have z2 := cmp_ngt h2
  generalize cmpR x b = m2 at *
  clear h1 h2
  unfold rv at *
  generalize a - x = s at *
  generalize x - b = t at *
  generalize itx x.num = x1 at *
  generalize itx (x.den : Int) = x2 at *
  generalize itx a.num = a1 at *
  generalize itx (a.den : Int) = a2 at *
  generalize itx b.num = b1 at *
  generalize itx (b.den : Int) = b2 at *
  generalize itx s.num = s1 at *
  generalize itx (s.den : Int) = s2 at *
  generalize itx t.num = t1 at *
  generalize itx (t.den : Int) = t2 at *
  obtain ⟨hB0, k0, k1, k2, k3⟩ := news4 w #[.string x1, .string x2] 25 #[.string a1, .string a2] 25 #[.string b1, .string b2] 25 #[.string ⟨#[]⟩, .string ⟨#[]⟩] 25
  have x0 := k0.c0
  have x1_ := k0.c1
  have a0 := k1.c0
  have a1_ := k1.c1
  have b0 := k2.c0
  have b1_ := k2.c1
  go_enter Tryz.func50, Tryz.ntmps50
  go_wp2_with ((first | (go_at_call 8; refine (R0 _).mono ?_; clear R0; rintro e w1 ⟨rfl, hb⟩; have hleD := bZz (bZs hB0 hb); have nk0 := Nat.ne_of_lt (k0.below hb).lt; have nk1 := Nat.ne_of_lt (k1.below hb).lt; have nk2 := Nat.ne_of_lt (k2.below hb).lt; have nk3 := Nat.ne_of_lt (k3.below hb).lt; replace hb := bZa hb (.cells #[.string ⟨#[48]⟩, .string ⟨#[49]⟩] 25); have KD := Blk.new w1 #[.string ⟨#[48]⟩, .string ⟨#[49]⟩] 25) | (go_at_call 18; refine (C1 _ (hp.below hB0)).mono ?_; clear C1; rintro e w2 ⟨rfl, hb⟩) | (go_at_call 20; refine (S1 _ (hp.below hB0)).mono ?_; clear S1; rintro e w3 ⟨rfl, hb⟩; replace k0 := k0.below hb; replace k1 := k1.below hb; replace k2 := k2.below hb; replace k3 := k3.below hb; replace KD := KD.below hb; replace hB0 := bZs hB0 hb; replace x0 := k0.c0; replace x1_ := k0.c1; replace a0 := k1.c0; replace a1_ := k1.c1; replace b0 := k2.c0; replace b1_ := k2.c1; obtain ⟨_, _, f0, f1⟩ := KD.two; replace k0 := (k0.far (p := ⟨w1.heap.size, 0, none⟩) nk0 (.string s1)).far (p := ⟨w1.heap.size, 1, none⟩) nk0 (.string s2); replace k1 := (k1.far (p := ⟨w1.heap.size, 0, none⟩) nk1 (.string s1)).far (p := ⟨w1.heap.size, 1, none⟩) nk1 (.string s2); replace k2 := (k2.far (p := ⟨w1.heap.size, 0, none⟩) nk2 (.string s1)).far (p := ⟨w1.heap.size, 1, none⟩) nk2 (.string s2); replace k3 := (k3.far (p := ⟨w1.heap.size, 0, none⟩) nk3 (.string s1)).far (p := ⟨w1.heap.size, 1, none⟩) nk3 (.string s2); replace KD : Blk ((w3.setCell ⟨w1.heap.size, 0, none⟩ (.string s1)).setCell ⟨w1.heap.size, 1, none⟩ (.string s2)) w1.heap.size #[.string s1, .string s2] 25 := (KD.set 0 (.string s1)).set 1 (.string s2); replace hB0 := bZe (j := 1) (v := .string s2) (bZe (j := 0) (v := .string s1) hB0 hleD) hleD) | (go_at_call 18; refine (C2 _ (hp.below hB0)).mono ?_; clear C2; rintro e w4 ⟨rfl, hb⟩; replace k3 := k3.below hb; obtain ⟨_, _, u0, u1⟩ := k3.two)); (try replace k0 := k0.below hb); (try replace k1 := k1.below hb); (try replace k2 := k2.below hb); (try replace k3 := k3.below hb); (try replace KD := KD.below hb); (try replace hB0 := bZs hB0 hb); clear hb; replace x0 := k0.c0; replace x1_ := k0.c1; replace a0 := k1.c0; replace a1_ := k1.c1; replace b0 := k2.c0; replace b1_ := k2.c1; replace kd0 := KD.c0; replace kd1 := KD.c1)
  refine bodyPost_ret (rZs rfl (.cell (w.heap.size + 3) 25 #[.string s1, .string s2] (0, 0) _ rfl ((k3.set 0 (.string s1)).set 1 (.string s2)) Tryz.underlying25 rfl (by kernel_rfl) .nil)) rfl ?_
  exact ⟨rfl, bZe (bZe hB0 (Nat.le_add_right w.heap.size 3)) (Nat.le_add_right w.heap.size 3)⟩
 ·rw [show beyR x a b = x - b from by unfold beyR; rw [if_pos h2]]
  have z1 := cmp_nlt h1
  rw [cmp_gt1 h2] at C2
  generalize cmpR x a = m1 at *
  clear h1 h2
  unfold rv at *
  generalize a - x = s at *
  generalize x - b = t at *
  generalize itx x.num = x1 at *
  generalize itx (x.den : Int) = x2 at *
  generalize itx a.num = a1 at *
  generalize itx (a.den : Int) = a2 at *
  generalize itx b.num = b1 at *
  generalize itx (b.den : Int) = b2 at *
  generalize itx s.num = s1 at *
  generalize itx (s.den : Int) = s2 at *
  generalize itx t.num = t1 at *
  generalize itx (t.den : Int) = t2 at *
  obtain ⟨hB0, k0, k1, k2, k3⟩ := news4 w #[.string x1, .string x2] 25 #[.string a1, .string a2] 25 #[.string b1, .string b2] 25 #[.string ⟨#[]⟩, .string ⟨#[]⟩] 25
  have x0 := k0.c0
  have x1_ := k0.c1
  have a0 := k1.c0
  have a1_ := k1.c1
  have b0 := k2.c0
  have b1_ := k2.c1
  go_enter Tryz.func50, Tryz.ntmps50
  go_wp2_with ((first | (go_at_call 8; refine (R0 _).mono ?_; clear R0; rintro e w1 ⟨rfl, hb⟩; have hleD := bZz (bZs hB0 hb); have nk0 := Nat.ne_of_lt (k0.below hb).lt; have nk1 := Nat.ne_of_lt (k1.below hb).lt; have nk2 := Nat.ne_of_lt (k2.below hb).lt; have nk3 := Nat.ne_of_lt (k3.below hb).lt; replace hb := bZa hb (.cells #[.string ⟨#[48]⟩, .string ⟨#[49]⟩] 25); have KD := Blk.new w1 #[.string ⟨#[48]⟩, .string ⟨#[49]⟩] 25) | (go_at_call 18; refine (C1 _ (hp.below hB0)).mono ?_; clear C1; rintro e w2 ⟨rfl, hb⟩) | (go_at_call 18; refine (C2 _ (hp.below hB0)).mono ?_; clear C2; rintro e w4 ⟨rfl, hb⟩) | (go_at_call 20; refine (S2 _ (hp.below hB0)).mono ?_; clear S2; rintro e w5 ⟨rfl, hb⟩; replace k0 := k0.below hb; replace k1 := k1.below hb; replace k2 := k2.below hb; replace k3 := k3.below hb; replace KD := KD.below hb; replace hB0 := bZs hB0 hb; replace x0 := k0.c0; replace x1_ := k0.c1; replace a0 := k1.c0; replace a1_ := k1.c1; replace b0 := k2.c0; replace b1_ := k2.c1; obtain ⟨_, _, f0, f1⟩ := KD.two; replace k0 := (k0.far (p := ⟨w1.heap.size, 0, none⟩) nk0 (.string t1)).far (p := ⟨w1.heap.size, 1, none⟩) nk0 (.string t2); replace k1 := (k1.far (p := ⟨w1.heap.size, 0, none⟩) nk1 (.string t1)).far (p := ⟨w1.heap.size, 1, none⟩) nk1 (.string t2); replace k2 := (k2.far (p := ⟨w1.heap.size, 0, none⟩) nk2 (.string t1)).far (p := ⟨w1.heap.size, 1, none⟩) nk2 (.string t2); replace k3 := (k3.far (p := ⟨w1.heap.size, 0, none⟩) nk3 (.string t1)).far (p := ⟨w1.heap.size, 1, none⟩) nk3 (.string t2); replace KD : Blk ((w5.setCell ⟨w1.heap.size, 0, none⟩ (.string t1)).setCell ⟨w1.heap.size, 1, none⟩ (.string t2)) w1.heap.size #[.string t1, .string t2] 25 := (KD.set 0 (.string t1)).set 1 (.string t2); replace hB0 := bZe (j := 1) (v := .string t2) (bZe (j := 0) (v := .string t1) hB0 hleD) hleD; obtain ⟨_, _, u0, u1⟩ := k3.two)); (try replace k0 := k0.below hb); (try replace k1 := k1.below hb); (try replace k2 := k2.below hb); (try replace k3 := k3.below hb); (try replace KD := KD.below hb); (try replace hB0 := bZs hB0 hb); clear hb; replace x0 := k0.c0; replace x1_ := k0.c1; replace a0 := k1.c0; replace a1_ := k1.c1; replace b0 := k2.c0; replace b1_ := k2.c1; replace kd0 := KD.c0; replace kd1 := KD.c1)
  refine bodyPost_ret (rZs rfl (.cell (w.heap.size + 3) 25 #[.string t1, .string t2] (0, 0) _ rfl ((k3.set 0 (.string t1)).set 1 (.string t2)) Tryz.underlying25 rfl (by kernel_rfl) .nil)) rfl ?_
  exact ⟨rfl, bZe (bZe hB0 (Nat.le_add_right w.heap.size 3)) (Nat.le_add_right w.heap.size 3)⟩
 ·rw [show beyR x a b = 0 from by unfold beyR; rw [if_neg h2, if_neg h1]]
  have z1 := cmp_nlt h1
  have z2 := cmp_ngt h2
  generalize cmpR x a = m1 at *
  generalize cmpR x b = m2 at *
  clear h1 h2
  rw [rv_zero]
  unfold rv at *
  generalize a - x = s at *
  generalize x - b = t at *
  generalize itx x.num = x1 at *
  generalize itx (x.den : Int) = x2 at *
  generalize itx a.num = a1 at *
  generalize itx (a.den : Int) = a2 at *
  generalize itx b.num = b1 at *
  generalize itx (b.den : Int) = b2 at *
  generalize itx s.num = s1 at *
  generalize itx (s.den : Int) = s2 at *
  generalize itx t.num = t1 at *
  generalize itx (t.den : Int) = t2 at *
  obtain ⟨hB0, k0, k1, k2, k3⟩ := news4 w #[.string x1, .string x2] 25 #[.string a1, .string a2] 25 #[.string b1, .string b2] 25 #[.string ⟨#[]⟩, .string ⟨#[]⟩] 25
  have x0 := k0.c0
  have x1_ := k0.c1
  have a0 := k1.c0
  have a1_ := k1.c1
  have b0 := k2.c0
  have b1_ := k2.c1
  go_enter Tryz.func50, Tryz.ntmps50
  go_wp2_with ((first | (go_at_call 8; refine (R0 _).mono ?_; clear R0; rintro e w1 ⟨rfl, hb⟩; have hleD := bZz (bZs hB0 hb); have nk0 := Nat.ne_of_lt (k0.below hb).lt; have nk1 := Nat.ne_of_lt (k1.below hb).lt; have nk2 := Nat.ne_of_lt (k2.below hb).lt; have nk3 := Nat.ne_of_lt (k3.below hb).lt; replace hb := bZa hb (.cells #[.string ⟨#[48]⟩, .string ⟨#[49]⟩] 25); have KD := Blk.new w1 #[.string ⟨#[48]⟩, .string ⟨#[49]⟩] 25) | (go_at_call 18; refine (C1 _ (hp.below hB0)).mono ?_; clear C1; rintro e _ ⟨rfl, hb⟩) | (go_at_call 18; refine (C2 _ (hp.below hB0)).mono ?_; clear C2; rintro e _ ⟨rfl, hb⟩; replace k3 := k3.below hb; obtain ⟨_, _, u0, u1⟩ := k3.two)); replace k0 := k0.below hb; replace k1 := k1.below hb; replace k2 := k2.below hb; (try replace k3 := k3.below hb); (try replace KD := KD.below hb); replace hB0 := bZs hB0 hb; clear hb; replace x0 := k0.c0; replace x1_ := k0.c1; replace a0 := k1.c0; replace a1_ := k1.c1; replace b0 := k2.c0; replace b1_ := k2.c1; replace kd0 := KD.c0; replace kd1 := KD.c1)
  refine bodyPost_ret (rZs rfl (.cell (w.heap.size + 3) 25 #[.string ⟨#[48]⟩, .string ⟨#[49]⟩] (0, 0) _ rfl ((k3.set 0 (.string ⟨#[48]⟩)).set 1 (.string ⟨#[49]⟩)) Tryz.underlying25 rfl (by kernel_rfl) .nil)) rfl ?_
  exact ⟨rfl, bZe (bZe hB0 (Nat.le_add_right w.heap.size 3)) (Nat.le_add_right w.heap.size 3)⟩
theorem so_len64 (w : World) : Calls Tryz.prog 261 #[.int .u64 2] w fun e w' => e = .returned (.int .i64 2) ∧ w' = w := by
 have hl : len8 2 = 2 := by decide
 go_enter Tryz.func261, Tryz.ntmps261
 go_wp2
 go_ret
 exact ⟨rfl, rfl⟩
theorem so_len (w : World) : Calls Tryz.prog 252 #[.int .u64 2] w fun e w' => e = .returned (.int .i64 2) ∧ w' = w := by
 go_enter Tryz.func252, Tryz.ntmps252
 go_wp2_with (go_at_call 261; refine (so_len64 _).mono ?_; rintro e w2 ⟨rfl, rfl⟩)
 go_ret
 exact ⟨rfl, rfl⟩
theorem so_ins (p q : Rat) (g : Nat) (w : World) (hp : Pow w) (hk : Blk w g #[.string (itx p.num), .string (itx (p.den : Int)), .string (itx q.num), .string (itx (q.den : Int))] 25) (h1 : Sq p) (h2 : Sq q) (h : p ≤ q) :
  Calls Tryz.prog 265 #[.slice (some ⟨g, 0, none⟩) 2 2, .int .i64 0, .int .i64 2, .func (.func 18) #[] #[]] w fun e w' => e = .returned (.tuple #[]) ∧ Below w.heap.size w w' := by
 have C := fun W hp => rat_Compare q p W hp h2 h1
 have hz : decide (cmpR q p < 0) = false := by
  rw [cmp_lt]
  exact decide_eq_false (Rat.not_lt.2 h)
 unfold rv at C
 generalize cmpR q p = zz at *
 have hz' : (zz < 0) = False := eq_false (of_decide_eq_false hz)
 have wz : IntKind.i64.wrap 0 = 0 := by decide
 clear h h1 h2
 generalize itx p.num = p1 at *
 generalize itx (p.den : Int) = p2 at *
 generalize itx q.num = q1 at *
 generalize itx (q.den : Int) = q2 at *
 go_enter Tryz.func265, Tryz.ntmps265
 go_wp2
 refine wp_loop_rounds 2 ?_
 rw [rounds_succ]
 go_wp2
 refine wp_loop_rounds 1 ?_
 rw [rounds_succ]
 go_wp2
 have hb1 := bZd (Below.refl w.heap.size w)
 have S0 := hk.drew
 refine rZu (fun _ => false) (fun W => Below w.drew.heap.size w.drew W) (by kernel_rfl) (cZb _) (Below.refl _ _) ?_
 apply wpU_e 0 18
 apply wpU_e 1 19
 apply wpU_e 2 20
 apply wpU_e 3 21
 apply wpU_e 4 22
 apply wpU_e 5 23
 apply wpU_e 6 24
 apply wpU_e 7 25
 refine wpU_f 8 26 (h1 := by intro W hW; have e2 := (S0.below hW).c2; have e3 := (S0.below hW).c3; go_simp; try rfl) (h3 := ?_)
 apply wpU_e 9 27
 apply wpU_e 10 28
 apply wpU_e 11 29
 apply wpU_e 12 30
 refine wpU_f 13 31 (h1 := by intro W hW; have e0 := (S0.below hW).c0; have e1 := (S0.below hW).c1; go_simp; try rfl) (h3 := ?_)
 refine wpU_ca 14 32 Tryz.func18 (fun W hW => C W (hp.below (bZs hb1 hW))) ?_
 refine wpU_ac ?_
 apply wpU_e 15 33
 apply wpU_e 16 34
 refine wpU_done (by kernel_rfl) (fun W1 hW1 => ?_) _
 go_simp
 go_wp2
 rw [rounds_succ]
 go_wp2
 go_end0
 exact ⟨rfl, bZs hb1 hW1⟩
theorem so_pdq (p q : Rat) (g : Nat) (w : World) (hp : Pow w) (hk : Blk w g #[.string (itx p.num), .string (itx (p.den : Int)), .string (itx q.num), .string (itx (q.den : Int))] 25) (h1 : Sq p) (h2 : Sq q) (h : p ≤ q) :
  Calls Tryz.prog 251 #[.slice (some ⟨g, 0, none⟩) 2 2, .int .i64 0, .int .i64 2, .int .i64 2, .func (.func 18) #[] #[]] w fun e w' => e = .returned (.tuple #[]) ∧ Below w.heap.size w w' := by
 have I := so_ins p q g w hp hk h1 h2 h
 clear hk h1 h2 h
 go_enter Tryz.func251, Tryz.ntmps251
 go_wp2
 refine wp_loop_rounds 1 ?_
 rw [rounds_succ]
 go_wp2_with (go_at_call 265; refine I.mono ?_; rintro e w2 ⟨rfl, hb2⟩)
 exact bodyPost_ret (results_none rfl _ _ _) rfl ⟨rfl, hb2⟩
theorem so_two (p q : Rat) (g : Nat) (w : World) (hp : Pow w) (hk : Blk w g #[.string (itx p.num), .string (itx (p.den : Int)), .string (itx q.num), .string (itx (q.den : Int))] 25) (h1 : Sq p) (h2 : Sq q) (h : p ≤ q) :
  Calls Tryz.prog 235 #[.slice (some ⟨g, 0, none⟩) 2 2, .func (.func 18) #[] #[]] w fun e w' => e = .returned (.tuple #[]) ∧ Below w.heap.size w w' := by
 have I := so_pdq p q g w hp hk h1 h2 h
 clear hk h1 h2 h
 go_enter Tryz.func235, Tryz.ntmps235
 go_wp2_with (first | (go_at_call 252; refine (so_len _).mono ?_; rintro e w2 ⟨rfl, rfl⟩) | (go_at_call 251; refine I.mono ?_; rintro e w2 ⟨rfl, hb2⟩))
 go_end0
 exact ⟨rfl, hb2⟩
def tlv (r t : Rat) : Value := .agg #[.string (itx r.num), .string (itx (r.den : Int)), .string (itx t.num), .string (itx (t.den : Int))]
theorem ml_around (r t p : Rat) (w : World) (hp : Pow w) (h1 : Sq p) (h2 : Sq r) :
  Calls Tryz.prog 236 #[tlv r t, rv p] w fun e w' => e = .returned (.tuple #[rv (p - r), rv (p + r)]) ∧ Below w.heap.size w w' := by
 have S := fun W hp => rat_Sub p r W hp h1 h2
 have D := fun W hp => rat_Add p r W hp h1 h2
 clear h1 h2
 unfold rv tlv at *
 generalize p - r = m at *
 generalize p + r = n at *
 generalize itx r.num = r1 at *
 generalize itx (r.den : Int) = r2 at *
 generalize itx t.num = t1 at *
 generalize itx (t.den : Int) = t2 at *
 generalize itx p.num = p1 at *
 generalize itx (p.den : Int) = p2 at *
 generalize itx m.num = m1 at *
 generalize itx (m.den : Int) = m2 at *
 generalize itx n.num = n1 at *
 generalize itx (n.den : Int) = n2 at *
 obtain ⟨hB0, k0, k1, k2, k3⟩ := news4 w #[.string r1, .string r2, .string t1, .string t2] 110 #[.string p1, .string p2] 25 #[.string ⟨#[]⟩, .string ⟨#[]⟩] 25 #[.string ⟨#[]⟩, .string ⟨#[]⟩] 25
 have MU1 := fun W => ml_must m1 m2 W
 have MU2 := fun W => ml_must n1 n2 W
 go_enter Tryz.func236, Tryz.ntmps236
 go_wp2
 have hb1 := bZd hB0
 have S0 := k0.drew
 have S1 := k1.drew
 have S2 := k2.drew
 have S3 := k3.drew
 generalize ((((w.alloc (.cells #[.string r1, .string r2, .string t1, .string t2] 110)).alloc (.cells #[.string p1, .string p2] 25)).alloc (.cells #[.string ⟨#[]⟩, .string ⟨#[]⟩] 25)).alloc (.cells #[.string ⟨#[]⟩, .string ⟨#[]⟩] 25)) = w4 at *
 clear hB0 k0 k1 k2 k3
 refine rZu (fun i => i == 14 || i == 15) (fun W => Below w4.drew.heap.size w4.drew W) (by kernel_rfl) (cZb _) (Below.refl _ _) ?_
 refine wpU_f 0 6 (h1 := by intro W hW; have e0 := (S1.below hW).c0; have e1 := (S1.below hW).c1; go_simp; try rfl) (h3 := ?_)
 apply wpU_e 1 7
 refine wpU_f 2 8 (h1 := by intro W hW; have e0 := (S0.below hW).c0; have e1 := (S0.below hW).c1; go_simp; try rfl) (h3 := ?_)
 refine wpU_f 7 13 (h1 := by intro W hW; have e0 := (S1.below hW).c0; have e1 := (S1.below hW).c1; go_simp; try rfl) (h3 := ?_)
 apply wpU_e 8 14
 refine wpU_f 9 15 (h1 := by intro W hW; have e0 := (S0.below hW).c0; have e1 := (S0.below hW).c1; go_simp; try rfl) (h3 := ?_)
 refine wpU_ca 3 9 Tryz.func20 (fun W hW => S W (hp.below (bZs hb1 hW))) ?_
 refine wpU_ac ?_
 apply wpU_e 4 10
 apply wpU_e 5 11
 refine wpU_ca 6 12 Tryz.func253 (fun W hW => MU1 W) ?_
 refine wpU_ac ?_
 refine wpU_ca 10 16 Tryz.func19 (fun W hW => D W (hp.below (bZs hb1 hW))) ?_
 refine wpU_ac ?_
 apply wpU_e 11 17
 apply wpU_e 12 18
 refine wpU_ca 13 19 Tryz.func253 (fun W hW => MU2 W) ?_
 refine wpU_ac ?_
 refine wpU_late (by kernel_rfl) (fun W1 hW1 => ?_)
 have L2 := S2.below hW1
 have L3 := (S3.below hW1).farR (show w.heap.size + 3 ≠ w.heap.size + 2 by omega) #[.string m1, .string m2]
 refine wpAny_step1 (i := 14) (by kernel_rfl) rfl (by rfl) (fun K hK => ?_)
 refine wp_store_row 25 (.tmp 4) (.tmp 12) rfl (w.heap.size + 2) #[.string m1, .string m2] rfl rfl 25 #[.string ⟨#[]⟩, .string ⟨#[]⟩] L2 (by kernel_rfl) rfl (by simp [Value.oneCell']) (hK _ _ ?_)
 clear hK K
 refine wpAny_last (i := 15) (by kernel_rfl) rfl (by kernel_rfl) (by rfl) (fun K hK => ?_)
 refine wp_store_row 25 (.tmp 5) (.tmp 19) rfl (w.heap.size + 3) #[.string n1, .string n2] rfl rfl 25 #[.string ⟨#[]⟩, .string ⟨#[]⟩] L3 (by kernel_rfl) rfl (by simp [Value.oneCell']) (hK _ _ ?_)
 clear hK K
 have M1 := (L2.row #[.string m1, .string m2]).farR (show w.heap.size + 2 ≠ w.heap.size + 3 by omega) #[.string n1, .string n2]
 have M2 := L3.row #[.string n1, .string n2]
 have hB9 := below_row (below_row (bZs hb1 hW1) (Nat.le_add_right _ 2) #[.string m1, .string m2]) (Nat.le_add_right _ 3) #[.string n1, .string n2]
 go_wp2
 refine bodyPost_ret (results_cc rfl _ _ (w.heap.size + 2) (w.heap.size + 3) 25 25 #[.string m1, .string m2] #[.string n1, .string n2] (0, 0) (0, 0) _ _ rfl M1 Tryz.underlying25 rfl (by kernel_rfl) rfl M2 Tryz.underlying25 rfl (by kernel_rfl)) rfl ?_
 exact ⟨rfl, hB9⟩
end Go.Proofs.YtociicfjhgfgpaaGreatDoor

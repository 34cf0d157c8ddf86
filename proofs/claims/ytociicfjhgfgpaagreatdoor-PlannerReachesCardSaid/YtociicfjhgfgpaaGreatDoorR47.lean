/- mill: prism, only; slices.All of prisms: the walks. mill: isPositive, isValid, Valid of one pass that is valid: the walks. mill: sweep of one pass: the walk. -/
import Derived.Test.YtociicfjhgfgpaaGreatDoorR43
import Derived.Test.YtociicfjhgfgpaaGreatDoorR40
import Derived.Test.YtociicfjhgfgpaaGreatDoorR22
set_option linter.unusedVariables false
set_option linter.unusedSimpArgs false
set_option maxHeartbeats 16000000
set_option maxRecDepth 100000
namespace Go.Proofs.YtociicfjhgfgpaaGreatDoor
open Go.RowKit Go.Shelf Go.Lib Go.Proofs.YtociicfjhgfgpaaGreatDoorW.PrintWords
theorem OwnK.row {α : Type} {d : Kd α} {e : Nat} {w : World} {base : Nat} {v : Value} {xs : List α} (h : OwnK d e w base v xs) {b : Nat} {cs : Array Value} {t : TypeId} (hk : Blk w b cs t) (ht : ∀ q, q ∈ e :: d.E → q ≠ t) (vs : Array Value) : OwnK d e (w.setRow b vs) base v xs :=
 Kd.R_mono (Kd.R_step (Kd.R_types h hk ht) (fun k ho _ => setRow_other w b k vs ho.2)) (fun _ hk => hk.1)
theorem OwnR.row {w : World} {a g : Nat} {v : Value} {r : Rg} {cs : Array Value} {t : TypeId} (h : OwnR w a v r) (hk : Blk w g cs t) (h1 : t ≠ 91) (h2 : t ≠ 93) (vs : Array Value) : OwnR (w.setRow g vs) a v r := by
 obtain ⟨u, n, e, hu, hn⟩ := h
 exact ⟨u, n, e, OwnK.row hu hk (by intro q hq; simp only [kCv, flat, List.mem_cons, List.not_mem_nil, or_false] at hq; rintro rfl; exact h1 hq) vs, OwnK.row hn hk (by intro q hq; simp only [kNd, flat, List.mem_cons, List.not_mem_nil, or_false] at hq; rintro rfl; exact h2 hq) vs⟩
theorem ml_prism (a b c d z r t : Rat) (T : Rg) (w : World) (hp : Pow w)
  (TR : ∀ W, Pow W → Calls Tryz.prog 184 #[tlv r t, psv a b c d z] W fun e w' => ∃ v, e = .returned v ∧ OwnR w' W.heap.size v T ∧ Below W.heap.size W w') :
  Calls Tryz.prog 125 #[tlv r t, psv a b c d z] w fun e w' => ∃ XA XAc YA YAc, e = .returned (.agg #[.slice XA T.1.length XAc, .slice YA T.2.length YAc, .string (itx z.num), .string (itx (z.den : Int)), .string (itx t.num), .string (itx (t.den : Int)), .bool false, .int .i64 0]) ∧ OwnR w' w.heap.size (.agg #[.slice XA T.1.length XAc, .slice YA T.2.length YAc]) T ∧ Below w.heap.size w w' := by
 unfold tlv psv at *
 generalize itx a.num = a1 at *
 generalize itx (a.den : Int) = a2 at *
 generalize itx b.num = b1 at *
 generalize itx (b.den : Int) = b2 at *
 generalize itx c.num = c1 at *
 generalize itx (c.den : Int) = c2 at *
 generalize itx d.num = d1 at *
 generalize itx (d.den : Int) = d2 at *
 generalize itx z.num = z1 at *
 generalize itx (z.den : Int) = z2 at *
 generalize itx r.num = r1 at *
 generalize itx (r.den : Int) = r2 at *
 generalize itx t.num = t1 at *
 generalize itx (t.den : Int) = t2 at *
 obtain ⟨hB0, k0, k1, k2⟩ := news3 w #[.string r1, .string r2, .string t1, .string t2] 110 #[.string a1, .string a2, .string b1, .string b2, .string c1, .string c2, .string d1, .string d2, .string z1, .string z2] 61 #[.slice none 0 0, .slice none 0 0, .string ⟨#[]⟩, .string ⟨#[]⟩, .string ⟨#[]⟩, .string ⟨#[]⟩, .bool false, .int .i64 0] 113
 go_enter Tryz.func125, Tryz.ntmps125
 go_wp2
 have hb1 := bZd hB0
 have S0 := k0.drew
 have S1 := k1.drew
 have S2 := k2.drew
 generalize (((w.alloc (.cells #[.string r1, .string r2, .string t1, .string t2] 110)).alloc (.cells #[.string a1, .string a2, .string b1, .string b2, .string c1, .string c2, .string d1, .string d2, .string z1, .string z2] 61)).alloc (.cells #[.slice none 0 0, .slice none 0 0, .string ⟨#[]⟩, .string ⟨#[]⟩, .string ⟨#[]⟩, .string ⟨#[]⟩, .bool false, .int .i64 0] 113)) = w3 at *
 clear hB0 k0 k1 k2
 have hC0 := Below.refl w3.drew.heap.size w3.drew
 refine wp_region_C (fun i => i == 9) (fun W => Below w3.drew.heap.size w3.drew W) (by kernel_rfl) ?_
 apply wpAnyC_ta 0 hC0
 ·intro W hW
  have hC := S0.below hW; have e0 := hC.c0; have e1 := hC.c1; have e2 := hC.c2; have e3 := hC.c3; clear hC; go_simp
  try rfl
 ·go_simp
  try rfl
 apply wpAnyC_ta 1 hC0
 ·intro W hW
  have hC := S1.below hW; have e0 := hC.c0; have e1 := hC.c1; have e2 := hC.c2; have e3 := hC.c3; have e4 := hC.c4; have e5 := hC.c5; have e6 := hC.c6; have e7 := hC.c7; have e8 := hC.c8; have e9 := hC.c9; clear hC; go_simp
  try rfl
 ·go_simp
  try rfl
 apply wpAnyC_ta 2 hC0
 ·intro W hW
  go_simp
  try rfl
 ·go_simp
  try rfl
 apply wpAnyC_ta 4 hC0
 ·intro W hW
  go_simp
  try rfl
 ·go_simp
  try rfl
 apply wpAnyC_ta 5 hC0
 ·intro W hW
  have e8 := (S1.below hW).c8; have e9 := (S1.below hW).c9; go_simp
  try rfl
 ·go_simp
  try rfl
 apply wpAnyC_ta 6 hC0
 ·intro W hW
  go_simp
  try rfl
 ·go_simp
  try rfl
 apply wpAnyC_ta 7 hC0
 ·intro W hW
  have e2 := (S0.below hW).c2; have e3 := (S0.below hW).c3; go_simp
  try rfl
 ·go_simp
  try rfl
 have R1 := TR w3.drew (hp.below hb1)
 refine wZs (i := 3) (by kernel_rfl) rfl (fun K hK => ?_)
 go_simp
 go_at_call 184
 refine R1.mono ?_
 rintro e w9 ⟨nv, rfl, ⟨x, y, rfl, HX, HY⟩, hb9⟩
 obtain ⟨XA, XAc, ex⟩ := Kd.R_slice HX
 obtain ⟨YA, YAc, ey⟩ := Kd.R_slice HY
 subst ex ey
 refine hK _ _ (fun _ => hb9) ?_
 clear hK K R1 TR
 have hO : OwnR w9 w.heap.size (.agg #[.slice XA T.1.length XAc, .slice YA T.2.length YAc]) T := ⟨_, _, rfl, Kd.R_lower HX (bZz hb1), Kd.R_lower HY (bZz hb1)⟩
 clear HX HY
 apply wpAnyC_ta 8 hb9
 ·intro W hW
  go_simp
  try rfl
 ·go_simp
  try rfl
 have L2 := S2.below hb9
 refine wZs (i := 9) (by kernel_rfl) rfl (fun K hK => ?_)
 refine wp_store_row 113 (.tmp 4) (.tmp 13) rfl (w.heap.size + 2) #[.slice XA T.1.length XAc, .slice YA T.2.length YAc, .string z1, .string z2, .string t1, .string t2, .bool false, .int .i64 0] rfl rfl 113 #[.slice none 0 0, .slice none 0 0, .string ⟨#[]⟩, .string ⟨#[]⟩, .string ⟨#[]⟩, .string ⟨#[]⟩, .bool false, .int .i64 0] L2 (by kernel_rfl) rfl (by simp [Value.oneCell']) (hK _ _ (fun h => absurd h (by decide)) ?_)
 clear hK K
 refine wpAnyC_done (by kernel_rfl) ?_ _
 go_wp2
 refine bodyPost_ret (rZs rfl (.cell (w.heap.size + 2) 113 #[.slice XA T.1.length XAc, .slice YA T.2.length YAc, .string z1, .string z2, .string t1, .string t2, .bool false, .int .i64 0] (0, 0) _ rfl (L2.row #[.slice XA T.1.length XAc, .slice YA T.2.length YAc, .string z1, .string z2, .string t1, .string t2, .bool false, .int .i64 0]) Tryz.underlying113 rfl (by kernel_rfl) .nil)) rfl ?_
 exact ⟨XA, XAc, YA, YAc, rfl, hO.row L2 (by decide) (by decide) #[.slice XA T.1.length XAc, .slice YA T.2.length YAc, .string z1, .string z2, .string t1, .string t2, .bool false, .int .i64 0], below_row (bZs hb1 hb9) (Nat.le_add_right w.heap.size 2) #[.slice XA T.1.length XAc, .slice YA T.2.length YAc, .string z1, .string z2, .string t1, .string t2, .bool false, .int .i64 0]⟩
theorem ml_only (A B : Option Addr) (n c m d : Nat) (z1 z2 t1 t2 : ByteArray) (k : Bool) (f : Int) (w : World) :
  Calls Tryz.prog 55 #[.agg #[.slice A n c, .slice B m d, .string z1, .string z2, .string t1, .string t2, .bool k, .int .i64 f]] w fun e w' => ∃ g, e = .returned (.agg #[.slice (some ⟨g, 0, none⟩) 1 1]) ∧ w.heap.size ≤ g ∧ Blk w' g #[.slice A n c, .slice B m d, .string z1, .string z2, .string t1, .string t2, .bool k, .int .i64 f] 113 ∧ Below w.heap.size w w' := by
 obtain ⟨hB0, k0, k1, k2⟩ := news3 w #[.slice A n c, .slice B m d, .string z1, .string z2, .string t1, .string t2, .bool k, .int .i64 f] 113 #[.slice (some ⟨w.heap.size + 2, 0, none⟩) 1 1] 57 #[.slice A n c, .slice B m d, .string z1, .string z2, .string t1, .string t2, .bool k, .int .i64 f] 113
 go_enter Tryz.func55, Tryz.ntmps55
 go_wp2
 refine bodyPost_ret (rZs rfl (.cell (w.heap.size + 1) 57 #[.slice (some ⟨w.heap.size + 2, 0, none⟩) 1 1] (0, 0) _ rfl k1 Tryz.underlying57 rfl (by kernel_rfl) .nil)) rfl ?_
 exact ⟨_, rfl, Nat.le_add_right _ _, k2, hB0⟩
theorem sl_All (v : Value) (w : World) (A : Option Addr) (n c : Nat) (hv : v = .slice A n c) :
  Calls Tryz.prog 126 #[v] w fun e w' => e = .returned (.func (.func 185) #[] #[.pointer (some ⟨w.heap.size, 0, none⟩)]) ∧ Blk w' w.heap.size #[v] 55 ∧ Below w.heap.size w w' := by
 subst hv
 have hB0 : Below w.heap.size w (w.alloc (.cells #[.slice A n c] 55)) := bZa (Below.refl _ _) _
 have hmf := mk_fn
 go_enter Tryz.func126, Tryz.ntmps126
 go_wp2
 go_ret
 exact ⟨rfl, Blk.new _ _ _, hB0⟩
theorem cmp_gt {p q : Rat} (h : q < p) : cmpR p q = 1 := by
 unfold cmpR
 rw [if_neg (by grind), if_neg (by grind)]
theorem ml_positive (r : Rat) (w : World) (hp : Pow w) (h : Sq r) (h0 : 0 < r) :
  Calls Tryz.prog 182 #[rv r] w fun e w' => e = .returned (.bool true) ∧ Below w.heap.size w w' := by
 have V := fun W hp => rat_Valid r W hp h
 have C := fun W hp => rat_Compare r 0 W hp h sq_zero
 rw [cmp_gt h0, rv_zero] at C
 unfold rv at *
 generalize itx r.num = s1 at *
 generalize itx (r.den : Int) = s2 at *
 obtain ⟨hB0, k0⟩ := news1 w #[.string s1, .string s2] 25
 go_enter Tryz.func182, Tryz.ntmps182
 go_wp2_with (first | (go_at_call 44; refine (V _ (hp.below hB0)).mono ?_; rintro e w2 ⟨rfl, hb2⟩; have hB2 := bZs hB0 hb2; have K0 := k0.below hb2; have c0 := K0.c0; have c1 := K0.c1) | (go_at_call 18; refine (C _ (hp.below hB2)).mono ?_; rintro e w3 ⟨rfl, hb3⟩))
 go_ret
 exact ⟨rfl, bZs hB2 hb3⟩
theorem ml_isValid (a b c d z : Rat) (w : World) (hp : Pow w) (ha : Sq a) (hb' : Sq b) (hc : Sq c) (hd : Sq d) (hz : Sq z) (h : b = d ∨ a = c) :
  Calls Tryz.prog 181 #[psv a b c d z] w fun e w' => e = .returned (.bool true) ∧ Below w.heap.size w w' := by
 have F : ∀ (W : World) (g : Nat), Pow W → Blk W g #[.string (itx a.num), .string (itx (a.den : Int)), .string (itx b.num), .string (itx (b.den : Int)), .string (itx c.num), .string (itx (c.den : Int)), .string (itx d.num), .string (itx (d.den : Int)), .string (itx z.num), .string (itx (z.den : Int))] 25 → Calls Tryz.prog 68 #[.slice (some ⟨g, 0, none⟩) 5 5, .func (.func 211) #[] #[]] W fun e w' => e = .returned (.bool false) ∧ Below W.heap.size W w' := fun W g hp hk => ctnF_none 211 (some ⟨g, 0, none⟩) 5 [a, b, c, d, z] W (flat_blk (n := 2) (enc := encQ) (hl := fun _ => rfl) (h1 := fun x u hu => by simp [encQ] at hu; rcases hu with rfl | rfl <;> rfl) [a, b, c, d, z] hk rfl (by simp)) (by simp) (enters_of Tryz.func211 (by kernel_rfl) rfl) (fun q hq W' hb => ml_wrong q W' (hp.below hb) (by
  simp only [List.mem_cons, List.not_mem_nil, or_false] at hq
  rcases hq with rfl | rfl | rfl | rfl | rfl
  ·exact ha
  ·exact hb'
  ·exact hc
  ·exact hd
  ·exact hz))
 have HH := fun W => ml_isHorizontal a b c d z W
 have VV := fun W => ml_isVertical a b c d z W
 have hhv : decide (b = d) = true ∨ (decide (b = d) = false ∧ decide (a = c) = true) := by
  rcases Classical.em (b = d) with e | e
  ·exact .inl (decide_eq_true e)
  ·exact .inr ⟨decide_eq_false e, decide_eq_true (h.resolve_left e)⟩
 clear h ha hb' hc hd hz
 unfold psv at *
 generalize decide (b = d) = fh at *
 generalize decide (a = c) = fv at *
 generalize itx a.num = a1 at *
 generalize itx (a.den : Int) = a2 at *
 generalize itx b.num = b1 at *
 generalize itx (b.den : Int) = b2 at *
 generalize itx c.num = c1 at *
 generalize itx (c.den : Int) = c2 at *
 generalize itx d.num = d1 at *
 generalize itx (d.den : Int) = d2 at *
 generalize itx z.num = z1 at *
 generalize itx (z.den : Int) = z2 at *
 obtain ⟨hB0, k0⟩ := news1 w #[.string a1, .string a2, .string b1, .string b2, .string c1, .string c2, .string d1, .string d2, .string z1, .string z2] 234
 go_enter Tryz.func181, Tryz.ntmps181
 have hBL := Blk.new2 w #[.string a1, .string a2, .string b1, .string b2, .string c1, .string c2, .string d1, .string d2, .string z1, .string z2] #[.string a1, .string a2, .string b1, .string b2, .string c1, .string c2, .string d1, .string d2, .string z1, .string z2] 234 25
 rcases hhv with rfl | ⟨rfl, rfl⟩
 ·go_wp2_with (first | (go_at_call 68; refine (F _ _ (hp.below (bZa hB0 _)) hBL).mono ?_; clear F; rintro e w2 ⟨rfl, hb2⟩; have hB2 := bZs (bZa hB0 (.cells #[.string a1, .string a2, .string b1, .string b2, .string c1, .string c2, .string d1, .string d2, .string z1, .string z2] 25)) hb2; have K0 := (k0.alloc (.cells #[.string a1, .string a2, .string b1, .string b2, .string c1, .string c2, .string d1, .string d2, .string z1, .string z2] 25)).below hb2; have c0 := K0.c0; have c1 := K0.c1; have c2 := K0.c2; have c3 := K0.c3; have c4 := K0.c4; have c5 := K0.c5; have c6 := K0.c6; have c7 := K0.c7; have c8 := K0.c8; have c9 := K0.c9) | (go_at_call 212; refine (HH _).mono ?_; rintro e w3 ⟨rfl, hb3⟩))
  go_ret
  exact ⟨rfl, bZs hB2 hb3⟩
 ·go_wp2_with (first | (go_at_call 68; refine (F _ _ (hp.below (bZa hB0 _)) hBL).mono ?_; clear F; rintro e w2 ⟨rfl, hb2⟩; have hB2 := bZs (bZa hB0 (.cells #[.string a1, .string a2, .string b1, .string b2, .string c1, .string c2, .string d1, .string d2, .string z1, .string z2] 25)) hb2; have K0 := (k0.alloc (.cells #[.string a1, .string a2, .string b1, .string b2, .string c1, .string c2, .string d1, .string d2, .string z1, .string z2] 25)).below hb2; have c0 := K0.c0; have c1 := K0.c1; have c2 := K0.c2; have c3 := K0.c3; have c4 := K0.c4; have c5 := K0.c5; have c6 := K0.c6; have c7 := K0.c7; have c8 := K0.c8; have c9 := K0.c9) | (go_at_call 212; refine (HH _).mono ?_; rintro e w3 ⟨rfl, hb3⟩; have hB3 := bZs hB2 hb3; replace K0 := K0.below hb3; replace c0 := K0.c0; replace c1 := K0.c1; replace c2 := K0.c2; replace c3 := K0.c3; replace c4 := K0.c4; replace c5 := K0.c5; replace c6 := K0.c6; replace c7 := K0.c7; replace c8 := K0.c8; replace c9 := K0.c9) | (go_at_call 213; refine (VV _).mono ?_; rintro e w4 ⟨rfl, hb4⟩))
  go_ret
  exact ⟨rfl, bZs hB3 hb4⟩
theorem ml_Valid1 (a b c d z : Rat) (w : World) (hp : Pow w) (ha : Sq a) (hb' : Sq b) (hc : Sq c) (hd : Sq d) (hz : Sq z) (h : b = d ∨ a = c) :
  Calls Tryz.prog 180 #[psv a b c d z] w fun e w' => e = .returned (.bool false) ∧ Below w.heap.size w w' := by
 have V := fun W hp => ml_isValid a b c d z W hp ha hb' hc hd hz h
 clear ha hb' hc hd hz h
 unfold psv at *
 generalize itx a.num = a1 at *
 generalize itx (a.den : Int) = a2 at *
 generalize itx b.num = b1 at *
 generalize itx (b.den : Int) = b2 at *
 generalize itx c.num = c1 at *
 generalize itx (c.den : Int) = c2 at *
 generalize itx d.num = d1 at *
 generalize itx (d.den : Int) = d2 at *
 generalize itx z.num = z1 at *
 generalize itx (z.den : Int) = z2 at *
 have hB0 : Below w.heap.size w (w.alloc (.cells #[.string a1, .string a2, .string b1, .string b2, .string c1, .string c2, .string d1, .string d2, .string z1, .string z2] 61)) := bZa (Below.refl _ _) _
 go_enter Tryz.func180, Tryz.ntmps180
 go_wp2_with (go_at_call 181; refine (V _ (hp.below hB0)).mono ?_; rintro e w2 ⟨rfl, hb2⟩)
 go_ret
 exact ⟨rfl, bZs hB0 hb2⟩
theorem ml_idx (a b c d z : Rat) (w : World) (hp : Pow w) (g : Nat) (hk : Blk w g #[.string (itx a.num), .string (itx (a.den : Int)), .string (itx b.num), .string (itx (b.den : Int)), .string (itx c.num), .string (itx (c.den : Int)), .string (itx d.num), .string (itx (d.den : Int)), .string (itx z.num), .string (itx (z.den : Int))] 61) (ha : Sq a) (hb' : Sq b) (hc : Sq c) (hd : Sq d) (hz : Sq z) (h : b = d ∨ a = c) :
  Calls Tryz.prog 214 #[.slice (some ⟨g, 0, none⟩) 1 1, .func (.func 180) #[] #[]] w fun e w' => e = .returned (.int .i64 (-1)) ∧ Below w.heap.size w w' := by
 have V := fun W hp => ml_Valid1 a b c d z W hp ha hb' hc hd hz h
 clear ha hb' hc hd hz h
 unfold psv at *
 generalize itx a.num = a1 at *
 generalize itx (a.den : Int) = a2 at *
 generalize itx b.num = b1 at *
 generalize itx (b.den : Int) = b2 at *
 generalize itx c.num = c1 at *
 generalize itx (c.den : Int) = c2 at *
 generalize itx d.num = d1 at *
 generalize itx (d.den : Int) = d2 at *
 generalize itx z.num = z1 at *
 generalize itx (z.den : Int) = z2 at *
 have c0 := hk.c0; have c1 := hk.c1; have c2 := hk.c2; have c3 := hk.c3; have c4 := hk.c4; have c5 := hk.c5; have c6 := hk.c6; have c7 := hk.c7; have c8 := hk.c8; have c9 := hk.c9
 go_enter Tryz.func214, Tryz.ntmps214
 go_wp2
 refine wp_loop_rounds 2 ?_
 rw [rounds_succ]
 go_wp2_with (go_at_call 180; refine (V _ hp).mono ?_; rintro e w2 ⟨rfl, hb2⟩)
 rw [rounds_succ]
 go_wp2
 go_ret
 exact ⟨rfl, hb2⟩
theorem ml_ctn (a b c d z : Rat) (w : World) (hp : Pow w) (g : Nat) (hk : Blk w g #[.string (itx a.num), .string (itx (a.den : Int)), .string (itx b.num), .string (itx (b.den : Int)), .string (itx c.num), .string (itx (c.den : Int)), .string (itx d.num), .string (itx (d.den : Int)), .string (itx z.num), .string (itx (z.den : Int))] 61) (ha : Sq a) (hb' : Sq b) (hc : Sq c) (hd : Sq d) (hz : Sq z) (h : b = d ∨ a = c) :
  Calls Tryz.prog 183 #[.slice (some ⟨g, 0, none⟩) 1 1, .func (.func 180) #[] #[]] w fun e w' => e = .returned (.bool false) ∧ Below w.heap.size w w' := by
 have V := ml_idx a b c d z w hp g hk ha hb' hc hd hz h
 clear ha hb' hc hd hz h hk
 go_enter Tryz.func183, Tryz.ntmps183
 go_wp2_with (go_at_call 214; refine V.mono ?_; rintro e w2 ⟨rfl, hb2⟩)
 go_ret
 exact ⟨rfl, hb2⟩
theorem ml_Valid (a b c d z r : Rat) (w : World) (hp : Pow w) (g : Nat) (hk : Blk w g #[.string (itx a.num), .string (itx (a.den : Int)), .string (itx b.num), .string (itx (b.den : Int)), .string (itx c.num), .string (itx (c.den : Int)), .string (itx d.num), .string (itx (d.den : Int)), .string (itx z.num), .string (itx (z.den : Int))] 61) (ha : Sq a) (hb' : Sq b) (hc : Sq c) (hd : Sq d) (hz : Sq z) (h : b = d ∨ a = c) (hr : Sq r) (h0 : 0 < r) :
  Calls Tryz.prog 124 #[.slice (some ⟨g, 0, none⟩) 1 1, rv r] w fun e w' => e = .returned (.bool true) ∧ Below w.heap.size w w' := by
 have V := fun W hp hk => ml_ctn a b c d z W hp g hk ha hb' hc hd hz h
 have R := fun W hp => ml_positive r W hp hr h0
 clear ha hb' hc hd hz h hr h0
 unfold rv at *
 generalize itx a.num = a1 at *
 generalize itx (a.den : Int) = a2 at *
 generalize itx b.num = b1 at *
 generalize itx (b.den : Int) = b2 at *
 generalize itx c.num = c1 at *
 generalize itx (c.den : Int) = c2 at *
 generalize itx d.num = d1 at *
 generalize itx (d.den : Int) = d2 at *
 generalize itx z.num = z1 at *
 generalize itx (z.den : Int) = z2 at *
 generalize itx r.num = r1 at *
 generalize itx (r.den : Int) = r2 at *
 have hB0 : Below w.heap.size w (w.alloc (.cells #[.string r1, .string r2] 25)) := bZa (Below.refl _ _) _
 have KG := hk.below hB0
 go_enter Tryz.func124, Tryz.ntmps124
 go_wp2_with (first | (go_at_call 182; refine (R _ (hp.below hB0)).mono ?_; rintro e w2 ⟨rfl, hb2⟩; have hB2 := bZs hB0 hb2; replace KG := KG.below hb2) | (go_at_call 183; refine (V _ (hp.below hB2) KG).mono ?_; rintro e w3 ⟨rfl, hb3⟩))
 go_ret
 exact ⟨rfl, bZs hB2 hb3⟩
abbrev Pr := {l : List Value // l.length = 8 ∧ ∀ u ∈ l, u.oneCell' = true}
def kPr : Kd Pr := flat 8 (fun p => p.1) (fun p => p.2.1) (fun p => p.2.2)
theorem info113 : (Tryz.prog.info? 113).map (fun i => (i.zero, i.size, i.bytes)) = some (some (.agg #[.slice none 0 0, .slice none 0 0, .string ⟨#[]⟩, .string ⟨#[]⟩, .string ⟨#[]⟩, .string ⟨#[]⟩, .bool false, .int .i64 0]), 8, 128) := by kernel_rfl
theorem make113 (w : World) : (Instr.makeSlice 55 (.int .i64 0) (.int .i64 1)).run Tryz.prog w = .ok (.slice (some ⟨w.heap.size, 0, none⟩) 0 1) (w.alloc (.cells #[.slice none 0 0, .slice none 0 0, .string ⟨#[]⟩, .string ⟨#[]⟩, .string ⟨#[]⟩, .string ⟨#[]⟩, .bool false, .int .i64 0] 113)) := by
 obtain ⟨i, hi, hzz⟩ := Option.map_eq_some_iff.1 info113
 simp only [Prod.mk.injEq] at hzz
 obtain ⟨h0, h1, h2⟩ := hzz
 have := run_make (P := Tryz.prog) w 55 113 i _ Tryz.underlying55 hi h0 .i64 .i64 0 1 (by decide) (by decide) (by rw [h2]; decide) (by decide)
 rw [h1] at this
 have hm : madeCells (Value.agg #[.slice none 0 0, .slice none 0 0, .string ⟨#[]⟩, .string ⟨#[]⟩, .string ⟨#[]⟩, .string ⟨#[]⟩, .bool false, .int .i64 0]).cells (Int.toNat 1 * 8) = #[.slice none 0 0, .slice none 0 0, .string ⟨#[]⟩, .string ⟨#[]⟩, .string ⟨#[]⟩, .string ⟨#[]⟩, .bool false, .int .i64 0] := by kernel_rfl
 rw [hm] at this
 exact this
theorem own113 (w : World) (base : Nat) (h : base ≤ w.heap.size) : OwnK kPr 113 (w.alloc (.cells #[.slice none 0 0, .slice none 0 0, .string ⟨#[]⟩, .string ⟨#[]⟩, .string ⟨#[]⟩, .string ⟨#[]⟩, .bool false, .int .i64 0] 113)) base (.slice (some ⟨w.heap.size, 0, none⟩) 0 1) [] := by
 refine ⟨fun k hk => ?_, [], ⟨rfl, .inr ⟨w.heap.size, 1, #[.slice none 0 0, .slice none 0 0, .string ⟨#[]⟩, .string ⟨#[]⟩, .string ⟨#[]⟩, .string ⟨#[]⟩, .bool false, .int .i64 0], rfl, h, Blk.new w #[.slice none 0 0, .slice none 0 0, .string ⟨#[]⟩, .string ⟨#[]⟩, .string ⟨#[]⟩, .string ⟨#[]⟩, .bool false, .int .i64 0] 113, by decide, by decide, by decide, rfl⟩⟩, Reps.none _ _⟩
 trivial
theorem own1 {w : World} {base : Nat} {v : Value} {p : Pr} (h : OwnK kPr 113 w base v [p]) : ∃ gp c5 cur, v = .slice (some ⟨gp, 0, none⟩) 1 c5 ∧ Blk w gp cur 113 ∧ ∀ (i : Nat) u, p.1[i]? = some u → cur[i]? = some u := by
 obtain ⟨-, inner, ⟨hl, ho⟩, hr⟩ := h
 have hp : (inner.drop (0 * 8)).take 8 = p.1 := hr.2 0 p rfl
 have hl8 : inner.length = 8 := hl
 rw [Nat.zero_mul, List.drop_zero, List.take_of_length_le (by omega)] at hp
 rcases ho with ⟨-, h0⟩ | ⟨g, cap, cur, rfl, -, hh, -, -, -, ht⟩
 ·exact absurd h0 (by simp)
 ·refine ⟨g, cap, cur, rfl, hh, fun i u hu => ?_⟩
  rw [← hp, ← ht] at hu
  have h1 := (List.getElem?_eq_some_iff.1 hu).1
  rw [List.getElem?_take_of_lt (by rw [List.length_take] at h1; omega)] at hu
  simpa using hu
theorem OwnK.grown {α : Type} {d : Kd α} {e : Nat} {w w1 : World} {base : Nat} {v : Value} {xs : List α} (h : OwnK d e w base v xs) {b : Nat} {cs : Array Value} {t : TypeId} (hk : Blk w b cs t) (ht : ∀ q, q ∈ e :: d.E → q ≠ t) (hg : w.grownBy w1 (some b)) : OwnK d e w1 base v xs :=
 Kd.R_mono (Kd.R_step (Kd.R_types h hk ht) (fun k ho hlt => hg.block k hlt (fun e => ho.2 (Option.some.inj e)))) (fun _ hk => hk.1)
theorem OwnR.grown {w w1 : World} {a g : Nat} {v : Value} {r : Rg} {cs : Array Value} {t : TypeId} (h : OwnR w a v r) (hk : Blk w g cs t) (h1 : t ≠ 91) (h2 : t ≠ 93) (hg : w.grownBy w1 (some g)) : OwnR w1 a v r := by
 obtain ⟨u, n, e, hu, hn⟩ := h
 exact ⟨u, n, e, OwnK.grown hu hk (by intro q hq; simp only [kCv, flat, List.mem_cons, List.not_mem_nil, or_false] at hq; rintro rfl; exact h1 hq) hg, OwnK.grown hn hk (by intro q hq; simp only [kNd, flat, List.mem_cons, List.not_mem_nil, or_false] at hq; rintro rfl; exact h2 hq) hg⟩
theorem ml_sweep (a b c d z r t : Rat) (T : Rg) (w : World) (hp : Pow w) (g : Nat) (hk : Blk w g #[.string (itx a.num), .string (itx (a.den : Int)), .string (itx b.num), .string (itx (b.den : Int)), .string (itx c.num), .string (itx (c.den : Int)), .string (itx d.num), .string (itx (d.den : Int)), .string (itx z.num), .string (itx (z.den : Int))] 61) (ha : Sq a) (hb' : Sq b) (hc : Sq c) (hd : Sq d) (hz : Sq z) (h : b = d ∨ a = c) (hr : Sq r) (h0 : 0 < r) (ht : Sq t) (hzt : z < t)
  (TR : ∀ W, Pow W → Calls Tryz.prog 184 #[tlv r t, psv a b c d z] W fun e w' => ∃ v, e = .returned v ∧ OwnR w' W.heap.size v T ∧ Below W.heap.size W w') :
  Calls Tryz.prog 54 #[tlv r t, .slice (some ⟨g, 0, none⟩) 1 1] w fun e w' => ∃ gs gp c5 cur XA XAc YA YAc, e = .returned (.func (.func 185) #[] #[.pointer (some ⟨gs, 0, none⟩)]) ∧ w.heap.size ≤ gs ∧ Blk w' gs #[.slice (some ⟨gp, 0, none⟩) 1 c5] 55 ∧ Blk w' gp cur 113 ∧ (∀ (i : Nat) u, ([.slice XA T.1.length XAc, .slice YA T.2.length YAc, .string (itx z.num), .string (itx (z.den : Int)), .string (itx t.num), .string (itx (t.den : Int)), .bool false, .int .i64 0] : List Value)[i]? = some u → cur[i]? = some u) ∧ OwnR w' w.heap.size (.agg #[.slice XA T.1.length XAc, .slice YA T.2.length YAc]) T ∧ Below w.heap.size w w' := by
 have V := fun W hp hk => ml_Valid a b c d z r W hp g hk ha hb' hc hd hz h hr h0
 have VT := fun W hp => rat_Valid t W hp ht
 have C := fun W hp => rat_Compare z t W hp hz ht
 have hlt : decide (cmpR z t < 0) = true := by
  rw [cmp_lt]
  exact decide_eq_true hzt
 have hlt' : (cmpR z t < 0) = True := eq_true (of_decide_eq_true hlt)
 have PR := fun W hp => ml_prism a b c d z r t T W hp TR
 have CO := fun W => ml_check W
 clear ha hb' hc hd hz h hr h0 ht hzt TR
 unfold rv tlv psv at *
 generalize cmpR z t = cz at *
 generalize itx a.num = a1 at *
 generalize itx (a.den : Int) = a2 at *
 generalize itx b.num = b1 at *
 generalize itx (b.den : Int) = b2 at *
 generalize itx c.num = c1 at *
 generalize itx (c.den : Int) = c2 at *
 generalize itx d.num = d1 at *
 generalize itx (d.den : Int) = d2 at *
 generalize itx z.num = z1 at *
 generalize itx (z.den : Int) = z2 at *
 generalize itx r.num = r1 at *
 generalize itx (r.den : Int) = r2 at *
 generalize itx t.num = t1 at *
 generalize itx (t.den : Int) = t2 at *
 obtain ⟨hB0, k0⟩ := news1 w #[.string r1, .string r2, .string t1, .string t2] 110
 have KP := hk.below hB0
 have xr0 := k0.c0
 have xr1 := k0.c1
 have xr2 := k0.c2
 have xr3 := k0.c3
 have xc0 := KP.c0
 have xc1 := KP.c1
 have xc2 := KP.c2
 have xc3 := KP.c3
 have xc4 := KP.c4
 have xc5 := KP.c5
 have xc6 := KP.c6
 have xc7 := KP.c7
 have xc8 := KP.c8
 have xc9 := KP.c9
 have TK1 : True := trivial
 have TK2 : True := trivial
 have hmk := make113
 go_enter Tryz.func54, Tryz.ntmps54
 go_wp2_with ((first | (go_at_call 124; refine (V _ (hp.below hB0) KP).mono ?_; clear V; rintro e _ ⟨rfl, hb⟩) | (go_at_call 44; refine (VT _ (hp.below hB0)).mono ?_; clear VT; rintro e _ ⟨rfl, hb⟩) | (go_at_call 123; clear TK1; refine (CO _).mono ?_; rintro e w3 ⟨rfl, rfl⟩)); (try replace k0 := k0.below hb); (try replace KP := KP.below hb); (try replace hB0 := bZs hB0 hb); (try clear hb); (try replace xr0 := k0.c0); (try replace xr1 := k0.c1); (try replace xr2 := k0.c2); (try replace xr3 := k0.c3); (try replace xc0 := KP.c0); (try replace xc1 := KP.c1); (try replace xc2 := KP.c2); (try replace xc3 := KP.c3); (try replace xc4 := KP.c4); (try replace xc5 := KP.c5); (try replace xc6 := KP.c6); (try replace xc7 := KP.c7); (try replace xc8 := KP.c8); (try replace xc9 := KP.c9))
 have hbx := bZa (Below.refl w3.heap.size w3) (.cells #[.string a1, .string a2, .string b1, .string b2, .string c1, .string c2, .string d1, .string d2, .string z1, .string z2] 61)
 have k0a := k0.below hbx
 have KPa := KP.below hbx
 have hB0a := bZs hB0 hbx
 have yr2 := k0a.c2
 have yr3 := k0a.c3
 refine wp_loop_rounds 2 ?_
 rw [rounds_succ]
 go_wp2_with (first | (go_at_call 18; refine (C _ (hp.below hB0a)).mono ?_; clear C; rintro e w4 ⟨rfl, hb⟩; replace k0 := k0a.below hb; replace KP := KPa.below hb; replace hB0 := bZs hB0a hb; clear k0a KPa hB0a hbx hb) | (go_at_call 123; clear TK2; refine (CO _).mono ?_; rintro e w5 ⟨rfl, rfl⟩))
 rw [rounds_succ]
 go_wp2
 have hom := own113 w5 w.heap.size (bZz hB0)
 have hbx := bZa (Below.refl w5.heap.size w5) (.cells #[.slice none 0 0, .slice none 0 0, .string ⟨#[]⟩, .string ⟨#[]⟩, .string ⟨#[]⟩, .string ⟨#[]⟩, .bool false, .int .i64 0] 113)
 have KM := Blk.new w5 #[.slice none 0 0, .slice none 0 0, .string ⟨#[]⟩, .string ⟨#[]⟩, .string ⟨#[]⟩, .string ⟨#[]⟩, .bool false, .int .i64 0] 113
 replace k0 := k0.below hbx
 replace KP := KP.below hbx
 replace hB0 := bZs hB0 hbx
 clear hbx hlt hlt' yr2 yr3 hmk
 generalize (w5.alloc (.cells #[.slice none 0 0, .slice none 0 0, .string ⟨#[]⟩, .string ⟨#[]⟩, .string ⟨#[]⟩, .string ⟨#[]⟩, .bool false, .int .i64 0] 113)) = x0 at *
 replace xc0 := KP.c0
 replace xc1 := KP.c1
 replace xc2 := KP.c2
 replace xc3 := KP.c3
 replace xc4 := KP.c4
 replace xc5 := KP.c5
 replace xc6 := KP.c6
 replace xc7 := KP.c7
 replace xc8 := KP.c8
 replace xc9 := KP.c9
 have hbx := bZa (Below.refl x0.heap.size x0) (.cells #[.string a1, .string a2, .string b1, .string b2, .string c1, .string c2, .string d1, .string d2, .string z1, .string z2] 61)
 have k0a := k0.below hbx
 have KMa := KM.below hbx
 have homa := OwnK.below hom hbx
 have hB0a := bZs hB0 hbx
 replace xr0 := k0a.c0
 replace xr1 := k0a.c1
 replace xr2 := k0a.c2
 replace xr3 := k0a.c3
 clear hbx k0 KP KM hom hB0
 refine wp_loop_rounds 2 ?_
 rw [rounds_succ]
 go_wp2_with (first | (go_at_call 125; refine (PR _ (hp.below hB0a)).mono ?_; clear PR; rintro e w6 ⟨XA, XAc, YA, YAc, rfl, HR, hb⟩; replace HR := HR.lower (bZz hB0a); have KM6 := KMa.below hb; have hom6 := OwnK.below homa hb; have hB6 := bZs hB0a hb; obtain ⟨PP, hPP⟩ : ∃ p : Pr, p.1 = [.slice XA T.1.length XAc, .slice YA T.2.length YAc, .string z1, .string z2, .string t1, .string t2, .bool false, .int .i64 0] := ⟨⟨[.slice XA T.1.length XAc, .slice YA T.2.length YAc, .string z1, .string z2, .string t1, .string t2, .bool false, .int .i64 0], rfl, by intro u hu; simp only [List.mem_cons, List.not_mem_nil, or_false] at hu; rcases hu with rfl | rfl | rfl | rfl | rfl | rfl | rfl | rfl <;> rfl⟩, rfl⟩; have EC := Aside0.mk hPP; clear hPP hb) | (at_builtin; refine Kd.R_append kPr (w0 := w) (W := w6) w.heap.size rfl (.tmp 43) (.tmp 47) 55 113 (.agg #[.slice none 0 0, .slice none 0 0, .string ⟨#[]⟩, .string ⟨#[]⟩, .string ⟨#[]⟩, .string ⟨#[]⟩, .bool false, .int .i64 0]) 128 rfl Tryz.underlying55 info113 rfl (by decide) (by decide) (.slice (some ⟨w5.heap.size, 0, none⟩) 0 1) [] PP [.slice XA T.1.length XAc, .slice YA T.2.length YAc, .string z1, .string z2, .string t1, .string t2, .bool false, .int .i64 0] (fun _ => True) (fun _ => False) rfl rfl EC.out.symm (fun _ hk => hk.elim) (fun _ _ => trivial) hom6 hB6 (bZz hB6) (by decide) ?_; intro v1 w7 HO7 HB7 HG7 _; obtain ⟨gp, c5, cur, rfl, KG, hcur⟩ := own1 HO7; replace HR := HR.grown KM6 (by decide) (by decide) HG7))
 rw [EC.out] at hcur
 have hcur' := Aside0.mk hcur
 clear hcur
 rw [rounds_succ]
 go_wp2_with (go_at_call 126; refine (sl_All _ _ (some ⟨gp, 0, none⟩) 1 c5 rfl).mono ?_; rintro e w8 ⟨rfl, KS, hb⟩)
 go_ret
 exact ⟨_, _, _, _, _, _, _, _, rfl, bZz HB7, KS, KG.below hb, hcur'.out, HR.below hb, bZs HB7 hb⟩
end Go.Proofs.YtociicfjhgfgpaaGreatDoor

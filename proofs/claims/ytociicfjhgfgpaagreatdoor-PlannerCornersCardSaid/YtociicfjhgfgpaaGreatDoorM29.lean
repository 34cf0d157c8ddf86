/- region: Valid: the walk. -/
import Derived.Test.YtociicfjhgfgpaaGreatDoorM28
set_option linter.unusedVariables false
set_option linter.unusedSimpArgs false
namespace Go.Proofs.YtociicfjhgfgpaaGreatDoor
open Go.RowKit Go.Shelf Go.Lib Go.Proofs.YtociicfjhgfgpaaGreatDoorW.PrintWords
set_option maxRecDepth 100000 in
theorem rg_within (k n : Int) (w : World) (h0 : 0 ≤ k) (h1 : k < n) :
  Calls Tryz.prog 101 #[.int .i64 k, .int .i64 n] w fun e w' => e = .returned (.bool true) ∧ w' = w := by
 have d0 : decide (0 ≤ k) = true := decide_eq_true h0
 have d1 : decide (k < n) = true := decide_eq_true h1
 go_enter Tryz.func101, Tryz.ntmps101
 go_wp2
 go_ret
 exact ⟨rfl, rfl⟩
theorem nodup_take {cs : List Cv} (h : cs.Nodup) (i : Nat) (hi : i < cs.length) : cs.getD i (0, 0, 0, 0) ∉ cs.take i := by
 rw [List.getD_eq_getElem?_getD, List.getElem?_eq_getElem hi]
 have e : cs = cs.take i ++ cs.drop i := (List.take_append_drop i cs).symm
 rw [e, List.nodup_append] at h
 intro hm
 refine h.2.2 _ hm _ ?_ rfl
 rw [List.drop_eq_getElem_cons hi]
 exact List.mem_cons_self
set_option maxHeartbeats 16000000 in
set_option maxRecDepth 100000 in
theorem rg_Valid (v : Value) (r : Rg) (w : World) (hp : Pow w) (hv : RdR w v r) (hok : okR r) (hs : ∀ c ∈ r.1, SqC c) :
  Calls Tryz.prog 40 #[v] w fun e w' => e = .returned (.bool true) ∧ Below w.heap.size w w' := by
 obtain ⟨cs, ns⟩ := r
 obtain ⟨u, n, rfl, ⟨A, c, rfl, hc, hq⟩, ⟨B, d, rfl, hd, hn⟩⟩ := hv
 obtain ⟨hnc, hnn, hsome, hnodup, hcv, hnd⟩ := hok
 dsimp only at *
 have k0 := Blk.new w #[.slice A cs.length c, .slice B ns.length d] 42
 have hB0 : Below w.heap.size w (w.alloc (.cells #[.slice A cs.length c, .slice B ns.length d] 42)) := below_alloc (Below.refl _ _) _
 have g1 : decide ((cs.length : Int) > 24) = false := decide_eq_false (by omega)
 have g2 : decide ((ns.length : Int) > 120) = false := decide_eq_false (by omega)
 have key : ((ns.length : Int) == 0) = false ∨ (((ns.length : Int) == 0) = true ∧ decide (0 < cs.length) = false) := by
  by_cases h : ns = []
  ·right
   rw [hsome h, h]
   exact ⟨rfl, rfl⟩
  ·left
   have := List.length_pos_iff.2 h
   exact beq_eq_false_iff_ne.2 (by omega)
 have CS := Aside0.mk hcv
 have SS := Aside0.mk hs
 have ND := Aside0.mk hnodup
 have NN := Aside0.mk hnd
 have e101 : ∀ args w, (callFunc 101 args).run Tryz.prog w = .ok (.enter 101 args) w := enters_of Tryz.func101 (by kernel_rfl) rfl
 clear hcv hs hnodup hnd hsome
 go_enter Tryz.func40, Tryz.ntmps40
 rcases key with g3 | ⟨g3, g4⟩
 ·go_wp2
  go_loopg [33] cs.length (fun m v33 w' => v33 = .int .i64 ((cs.length : Int) - (m : Int)) ∧ m ≤ cs.length ∧ Blk w' w.heap.size #[.slice A cs.length c, .slice B ns.length d] 42 ∧ Below w.heap.size w w')
  case atStart => exact ⟨by rw [Int.sub_self], Nat.le_refl _, k0, hB0⟩
  obtain ⟨rfl, hk, K0, HB⟩ := hrel
  cases gk with
  | zero =>
   have hlt : decide (((cs.length : Int) - ((0 : Nat) : Int)) < (cs.length : Int)) = false := decide_eq_false (by omega)
   have e1 := K0.cell 1
   go_wp2
   clear CS SS ND g1 g2 hnc hnn
   go_loopg [53] ns.length (fun m v53 w' => v53 = .int .i64 ((ns.length : Int) - (m : Int)) ∧ m ≤ ns.length ∧ Blk w' w.heap.size #[.slice A cs.length c, .slice B ns.length d] 42 ∧ Below w.heap.size w w')
   case atStart => exact ⟨by rw [Int.sub_self], Nat.le_refl _, K0, HB⟩
   clear K0 HB
   obtain ⟨rfl, hk, K0, HB⟩ := hrel
   cases gk with
   | zero =>
    have hlt : decide (((ns.length : Int) - ((0 : Nat) : Int)) < (ns.length : Int)) = false := decide_eq_false (by omega)
    go_wp2
    go_ret
    exact ⟨rfl, HB⟩
   | succ m =>
    obtain ⟨i, hi⟩ : ∃ i : Nat, i + (m + 1) = ns.length := ⟨ns.length - (m + 1), by omega⟩
    rw [show (ns.length : Int) - ((m + 1 : Nat) : Int) = (i : Int) by omega]
    have hlt : ((i : Int) < (ns.length : Int)) = True := eq_true (by omega)
    have h0 : (0 ≤ (i : Int)) = True := eq_true (by omega)
    have hw : wrap64 ((i : Int) + 1) = (i : Int) + 1 := by have := hn.2.1; unfold wrap64; omega
    have hgt : ns[i]? = some (ns.getD i (0, 0, 0, 0)) := by
     rw [List.getD_eq_getElem?_getD, List.getElem?_eq_getElem (show i < ns.length by omega)]
     rfl
    have OK := okNds_get NN.out hgt
    rw [Nat.zero_add] at OK
    obtain ⟨bd, rfl, hx0, hx1⟩ := flat_at hn (0, 0, 0, 0) (i : Int) (by omega) (by omega)
    have c0 := hx0 _ rfl
    have c1 := hx1 1 _ (by omega) rfl
    have c2 := hx1 2 _ (by omega) rfl
    have c3 := hx1 3 _ (by omega) rfl
    rw [Int.toNat_natCast] at c0 c1 c2 c3
    clear hx0 hx1 hgt
    generalize ns.getD i (0, 0, 0, 0) = e at *
    obtain ⟨p, x, l, r⟩ := e
    dsimp only at c0 c1 c2 c3 OK
    have d0 := pw_cell_below HB c0
    have d1 := pw_cell_below HB c1
    have d2 := pw_cell_below HB c2
    have d3 := pw_cell_below HB c3
    clear c0 c1 c2 c3
    have hB1 := below_alloc HB (.cells #[.int .i64 p, .int .i64 x, .int .i64 l, .int .i64 r] 93)
    have K1 := K0.alloc (.cells #[.int .i64 p, .int .i64 x, .int .i64 l, .int .i64 r] 93)
    have e0 := K1.cell 0
    rcases OK with ⟨hp1, hx0, hx1, hl, hr⟩ | ⟨hp1, hx, hl0, hl1, hr0, hr1⟩
    ·dsimp only at *
     subst hp1 hl hr
     have W1 := fun W => rg_within x (cs.length : Int) W hx0 (by omega)
     go_wp2_with (go_at_fn 101; refine (W1 _).mono ?_; clear W1; rintro e w2 ⟨rfl, rfl⟩)
     go_roundg m
     case measure => omega
     case rel => exact ⟨by congr 1; omega, by omega, K1, hB1⟩
    ·dsimp only at *
     subst hx
     have W1 := fun W => rg_within l (i : Int) W hl0 (by omega)
     have W2 := fun W => rg_within r (i : Int) W hr0 (by omega)
     rcases hp1 with rfl | rfl | rfl
     all_goals
      go_wp2_with (first | (go_at_fn 101; refine (W1 _).mono ?_; clear W1; rintro e w2 ⟨rfl, rfl⟩) | (go_at_fn 101; refine (W2 _).mono ?_; clear W2; rintro e w2 ⟨rfl, rfl⟩))
      go_roundg m
      case measure => omega
      case rel => exact ⟨by congr 1; omega, by omega, K1, hB1⟩
  | succ m =>
   obtain ⟨i, hi⟩ : ∃ i : Nat, i + (m + 1) = cs.length := ⟨cs.length - (m + 1), by omega⟩
   rw [show (cs.length : Int) - ((m + 1 : Nat) : Int) = (i : Int) by omega]
   have hlt : ((i : Int) < (cs.length : Int)) = True := eq_true (by omega)
   have h0 : (0 ≤ (i : Int)) = True := eq_true (by omega)
   have hcap : ((i : Int) ≤ (c : Int)) = True := eq_true (by omega)
   have hw : wrap64 ((i : Int) + 1) = (i : Int) + 1 := by unfold wrap64; omega
   obtain ⟨ad, rfl, hx0, hx1⟩ := flat_at hq (0, 0, 0, 0) (i : Int) (by omega) (by omega)
   have c0 := hx0 _ rfl
   have c1 := hx1 1 _ (by omega) rfl
   have c2 := hx1 2 _ (by omega) rfl
   have c3 := hx1 3 _ (by omega) rfl
   have c4 := hx1 4 _ (by omega) rfl
   have c5 := hx1 5 _ (by omega) rfl
   have c6 := hx1 6 _ (by omega) rfl
   rw [Int.toNat_natCast] at c0 c1 c2 c3 c4 c5 c6
   clear hx0 hx1
   have hm := getD_mem (xs := cs) (i := i) (z := (0, 0, 0, 0)) (by omega)
   have V := fun W hp => rg_validCurve (cs.getD i (0, 0, 0, 0)) W hp (CS.out _ hm) (SS.out _ hm)
   have CT := fun W hq => rg_contains (some ad) c (cs.take i) (cs.getD i (0, 0, 0, 0)) W hq (by rw [List.length_take]; omega)
   rw [decide_eq_false (nodup_take ND.out i (by omega)), show (cs.take i).length = i by rw [List.length_take]; omega] at CT
   clear hm
   have HQ : ∀ W, Below w.heap.size w W → kCv.C W (some ad) i (cs.take i) := fun W hb => by
    have := Kd.C_take (Kd.C_below hq hb) (show i ≤ cs.length by omega)
    rwa [show (cs.take i).length = i by rw [List.length_take]; omega] at this
   unfold cv at V CT
   generalize cs.getD i (0, 0, 0, 0) = e at *
   generalize e.1 = k at *
   generalize itx e.2.1.num = s1 at *
   generalize itx (e.2.1.den : Int) = s2 at *
   generalize itx e.2.2.1.num = s3 at *
   generalize itx (e.2.2.1.den : Int) = s4 at *
   generalize itx e.2.2.2.num = s5 at *
   generalize itx (e.2.2.2.den : Int) = s6 at *
   have d0 := pw_cell_below HB c0
   have d1 := pw_cell_below HB c1
   have d2 := pw_cell_below HB c2
   have d3 := pw_cell_below HB c3
   have d4 := pw_cell_below HB c4
   have d5 := pw_cell_below HB c5
   have d6 := pw_cell_below HB c6
   clear c0 c1 c2 c3 c4 c5 c6
   go_wp2
   have hB1 := below_alloc HB (.cells #[.int .i64 k, .string s1, .string s2, .string s3, .string s4, .string s5, .string s6] 91)
   have K1 := K0.alloc (.cells #[.int .i64 k, .string s1, .string s2, .string s3, .string s4, .string s5, .string s6] 91)
   have K2 := Blk.new wr #[.int .i64 k, .string s1, .string s2, .string s3, .string s4, .string s5, .string s6] 91
   generalize hg : wr.heap.size = g at *
   generalize hw3 : wr.alloc (.cells #[.int .i64 k, .string s1, .string s2, .string s3, .string s4, .string s5, .string s6] 91) = w3 at *
   clear hg hw3 d0 d1 d2 d3 d4 d5 d6
   refine wp_region_U (fun _ => false) (fun W => Below w3.drew.heap.size w3.drew W) (by kernel_rfl) (closed_below _) (Below.refl _ _) ?_
   apply wpU_tk 0 (some 38)
   ·intro W hW
    have e0 := (K2.drew.below hW).cell 0; have e1 := (K2.drew.below hW).cell 1; have e2 := (K2.drew.below hW).cell 2; have e3 := (K2.drew.below hW).cell 3; have e4 := (K2.drew.below hW).cell 4; have e5 := (K2.drew.below hW).cell 5; have e6 := (K2.drew.below hW).cell 6; have q0 := (K1.drew.below hW).cell 0
    go_simp
    try rfl
   apply wpU_act
   apply Exists.intro
   refine ⟨?_, ?_⟩
   ·go_simp
    try rfl
   refine wpU_call (.bool true) (i := 1) (d := some 39) rfl rfl (by kernel_rfl) (by kernel_rfl) (by kernel_rfl) (by kernel_rfl) (by rfl) ⟨99, #[.agg #[.int .i64 k, .string s1, .string s2, .string s3, .string s4, .string s5, .string s6]], fun W hW => ?_, fun W hW => V W (hp.below (below_step (below_drew hB1) hW))⟩ ?_
   ·rw [ucall_run rfl rfl (enters_of Tryz.func99 (by kernel_rfl) rfl) W]
    go_simp
   apply wpU_act
   apply Exists.intro
   refine ⟨?_, ?_⟩
   ·go_simp
    try rfl
   apply wpU_tk 2 (some 40)
   ·intro W hW
    go_simp
    try rfl
   apply wpU_act
   apply Exists.intro
   refine ⟨?_, ?_⟩
   ·go_simp
    try rfl
   apply wpU_tk 3 (some 41)
   ·intro W hW
    go_simp
    try rfl
   apply wpU_act
   apply Exists.intro
   refine ⟨?_, ?_⟩
   ·go_simp
    try rfl
   apply wpU_tk 4 (some 42)
   ·intro W hW
    go_simp
    try rfl
   apply wpU_act
   apply Exists.intro
   refine ⟨?_, ?_⟩
   ·go_simp
    try rfl
   apply wpU_tk 5 (some 43)
   ·intro W hW
    have e0 := (K2.drew.below hW).cell 0; have e1 := (K2.drew.below hW).cell 1; have e2 := (K2.drew.below hW).cell 2; have e3 := (K2.drew.below hW).cell 3; have e4 := (K2.drew.below hW).cell 4; have e5 := (K2.drew.below hW).cell 5; have e6 := (K2.drew.below hW).cell 6; have q0 := (K1.drew.below hW).cell 0
    go_simp
    try rfl
   apply wpU_act
   apply Exists.intro
   refine ⟨?_, ?_⟩
   ·go_simp
    try rfl
   apply wpU_tk 6 (some 44)
   ·intro W hW
    go_simp
    try rfl
   apply wpU_act
   apply Exists.intro
   refine ⟨?_, ?_⟩
   ·go_simp
    try rfl
   apply wpU_tk 7 (some 45)
   ·intro W hW
    go_simp
    try rfl
   apply wpU_act
   apply Exists.intro
   refine ⟨?_, ?_⟩
   ·go_simp
    try rfl
   apply wpU_tk 8 (some 46)
   ·intro W hW
    have e0 := (K2.drew.below hW).cell 0; have e1 := (K2.drew.below hW).cell 1; have e2 := (K2.drew.below hW).cell 2; have e3 := (K2.drew.below hW).cell 3; have e4 := (K2.drew.below hW).cell 4; have e5 := (K2.drew.below hW).cell 5; have e6 := (K2.drew.below hW).cell 6; have q0 := (K1.drew.below hW).cell 0
    go_simp
    try rfl
   apply wpU_act
   apply Exists.intro
   refine ⟨?_, ?_⟩
   ·go_simp
    try rfl
   refine wpU_call (.bool false) (i := 9) (d := some 47) rfl rfl (by kernel_rfl) (by kernel_rfl) (by kernel_rfl) (by kernel_rfl) (by rfl) ⟨100, #[.slice (some ad) i c, .agg #[.int .i64 k, .string s1, .string s2, .string s3, .string s4, .string s5, .string s6]], fun W hW => ?_, fun W hW => CT W (HQ W (below_step (below_drew hB1) hW))⟩ ?_
   ·rw [ucall_run rfl rfl (enters_of Tryz.func100 (by kernel_rfl) rfl) W]
    go_simp
   apply wpU_act
   apply Exists.intro
   refine ⟨?_, ?_⟩
   ·go_simp
    try rfl
   apply wpU_tk 10 (some 48)
   ·intro W hW
    go_simp
    try rfl
   apply wpU_act
   apply Exists.intro
   refine ⟨?_, ?_⟩
   ·go_simp
    try rfl
   refine wpU_done (by kernel_rfl) (fun W1 hW1 => ?_) _
   go_simp
   go_wp2
   go_roundg m
   case measure => omega
   case rel => exact ⟨by congr 1; omega, by omega, K1.drew.below hW1, below_step (below_drew hB1) hW1⟩
 ·go_wp2
  go_loopg [33] cs.length (fun m v33 w' => v33 = .int .i64 ((cs.length : Int) - (m : Int)) ∧ m ≤ cs.length ∧ Blk w' w.heap.size #[.slice A cs.length c, .slice B ns.length d] 42 ∧ Below w.heap.size w w')
  case atStart => exact ⟨by rw [Int.sub_self], Nat.le_refl _, k0, hB0⟩
  obtain ⟨rfl, hk, K0, HB⟩ := hrel
  cases gk with
  | zero =>
   have hlt : decide (((cs.length : Int) - ((0 : Nat) : Int)) < (cs.length : Int)) = false := decide_eq_false (by omega)
   have e1 := K0.cell 1
   go_wp2
   clear CS SS ND g1 g2 hnc hnn
   go_loopg [53] ns.length (fun m v53 w' => v53 = .int .i64 ((ns.length : Int) - (m : Int)) ∧ m ≤ ns.length ∧ Blk w' w.heap.size #[.slice A cs.length c, .slice B ns.length d] 42 ∧ Below w.heap.size w w')
   case atStart => exact ⟨by rw [Int.sub_self], Nat.le_refl _, K0, HB⟩
   clear K0 HB
   obtain ⟨rfl, hk, K0, HB⟩ := hrel
   cases gk with
   | zero =>
    have hlt : decide (((ns.length : Int) - ((0 : Nat) : Int)) < (ns.length : Int)) = false := decide_eq_false (by omega)
    go_wp2
    go_ret
    exact ⟨rfl, HB⟩
   | succ m =>
    obtain ⟨i, hi⟩ : ∃ i : Nat, i + (m + 1) = ns.length := ⟨ns.length - (m + 1), by omega⟩
    rw [show (ns.length : Int) - ((m + 1 : Nat) : Int) = (i : Int) by omega]
    have hlt : ((i : Int) < (ns.length : Int)) = True := eq_true (by omega)
    have h0 : (0 ≤ (i : Int)) = True := eq_true (by omega)
    have hw : wrap64 ((i : Int) + 1) = (i : Int) + 1 := by have := hn.2.1; unfold wrap64; omega
    have hgt : ns[i]? = some (ns.getD i (0, 0, 0, 0)) := by
     rw [List.getD_eq_getElem?_getD, List.getElem?_eq_getElem (show i < ns.length by omega)]
     rfl
    have OK := okNds_get NN.out hgt
    rw [Nat.zero_add] at OK
    obtain ⟨bd, rfl, hx0, hx1⟩ := flat_at hn (0, 0, 0, 0) (i : Int) (by omega) (by omega)
    have c0 := hx0 _ rfl
    have c1 := hx1 1 _ (by omega) rfl
    have c2 := hx1 2 _ (by omega) rfl
    have c3 := hx1 3 _ (by omega) rfl
    rw [Int.toNat_natCast] at c0 c1 c2 c3
    clear hx0 hx1 hgt
    generalize ns.getD i (0, 0, 0, 0) = e at *
    obtain ⟨p, x, l, r⟩ := e
    dsimp only at c0 c1 c2 c3 OK
    have d0 := pw_cell_below HB c0
    have d1 := pw_cell_below HB c1
    have d2 := pw_cell_below HB c2
    have d3 := pw_cell_below HB c3
    clear c0 c1 c2 c3
    have hB1 := below_alloc HB (.cells #[.int .i64 p, .int .i64 x, .int .i64 l, .int .i64 r] 93)
    have K1 := K0.alloc (.cells #[.int .i64 p, .int .i64 x, .int .i64 l, .int .i64 r] 93)
    have e0 := K1.cell 0
    rcases OK with ⟨hp1, hx0, hx1, hl, hr⟩ | ⟨hp1, hx, hl0, hl1, hr0, hr1⟩
    ·dsimp only at *
     subst hp1 hl hr
     have W1 := fun W => rg_within x (cs.length : Int) W hx0 (by omega)
     go_wp2_with (go_at_fn 101; refine (W1 _).mono ?_; clear W1; rintro e w2 ⟨rfl, rfl⟩)
     go_roundg m
     case measure => omega
     case rel => exact ⟨by congr 1; omega, by omega, K1, hB1⟩
    ·dsimp only at *
     subst hx
     have W1 := fun W => rg_within l (i : Int) W hl0 (by omega)
     have W2 := fun W => rg_within r (i : Int) W hr0 (by omega)
     rcases hp1 with rfl | rfl | rfl
     all_goals
      go_wp2_with (first | (go_at_fn 101; refine (W1 _).mono ?_; clear W1; rintro e w2 ⟨rfl, rfl⟩) | (go_at_fn 101; refine (W2 _).mono ?_; clear W2; rintro e w2 ⟨rfl, rfl⟩))
      go_roundg m
      case measure => omega
      case rel => exact ⟨by congr 1; omega, by omega, K1, hB1⟩
  | succ m =>
   obtain ⟨i, hi⟩ : ∃ i : Nat, i + (m + 1) = cs.length := ⟨cs.length - (m + 1), by omega⟩
   rw [show (cs.length : Int) - ((m + 1 : Nat) : Int) = (i : Int) by omega]
   have hlt : ((i : Int) < (cs.length : Int)) = True := eq_true (by omega)
   have h0 : (0 ≤ (i : Int)) = True := eq_true (by omega)
   have hcap : ((i : Int) ≤ (c : Int)) = True := eq_true (by omega)
   have hw : wrap64 ((i : Int) + 1) = (i : Int) + 1 := by unfold wrap64; omega
   obtain ⟨ad, rfl, hx0, hx1⟩ := flat_at hq (0, 0, 0, 0) (i : Int) (by omega) (by omega)
   have c0 := hx0 _ rfl
   have c1 := hx1 1 _ (by omega) rfl
   have c2 := hx1 2 _ (by omega) rfl
   have c3 := hx1 3 _ (by omega) rfl
   have c4 := hx1 4 _ (by omega) rfl
   have c5 := hx1 5 _ (by omega) rfl
   have c6 := hx1 6 _ (by omega) rfl
   rw [Int.toNat_natCast] at c0 c1 c2 c3 c4 c5 c6
   clear hx0 hx1
   have hm := getD_mem (xs := cs) (i := i) (z := (0, 0, 0, 0)) (by omega)
   have V := fun W hp => rg_validCurve (cs.getD i (0, 0, 0, 0)) W hp (CS.out _ hm) (SS.out _ hm)
   have CT := fun W hq => rg_contains (some ad) c (cs.take i) (cs.getD i (0, 0, 0, 0)) W hq (by rw [List.length_take]; omega)
   rw [decide_eq_false (nodup_take ND.out i (by omega)), show (cs.take i).length = i by rw [List.length_take]; omega] at CT
   clear hm
   have HQ : ∀ W, Below w.heap.size w W → kCv.C W (some ad) i (cs.take i) := fun W hb => by
    have := Kd.C_take (Kd.C_below hq hb) (show i ≤ cs.length by omega)
    rwa [show (cs.take i).length = i by rw [List.length_take]; omega] at this
   unfold cv at V CT
   generalize cs.getD i (0, 0, 0, 0) = e at *
   generalize e.1 = k at *
   generalize itx e.2.1.num = s1 at *
   generalize itx (e.2.1.den : Int) = s2 at *
   generalize itx e.2.2.1.num = s3 at *
   generalize itx (e.2.2.1.den : Int) = s4 at *
   generalize itx e.2.2.2.num = s5 at *
   generalize itx (e.2.2.2.den : Int) = s6 at *
   have d0 := pw_cell_below HB c0
   have d1 := pw_cell_below HB c1
   have d2 := pw_cell_below HB c2
   have d3 := pw_cell_below HB c3
   have d4 := pw_cell_below HB c4
   have d5 := pw_cell_below HB c5
   have d6 := pw_cell_below HB c6
   clear c0 c1 c2 c3 c4 c5 c6
   go_wp2
   have hB1 := below_alloc HB (.cells #[.int .i64 k, .string s1, .string s2, .string s3, .string s4, .string s5, .string s6] 91)
   have K1 := K0.alloc (.cells #[.int .i64 k, .string s1, .string s2, .string s3, .string s4, .string s5, .string s6] 91)
   have K2 := Blk.new wr #[.int .i64 k, .string s1, .string s2, .string s3, .string s4, .string s5, .string s6] 91
   generalize hg : wr.heap.size = g at *
   generalize hw3 : wr.alloc (.cells #[.int .i64 k, .string s1, .string s2, .string s3, .string s4, .string s5, .string s6] 91) = w3 at *
   clear hg hw3 d0 d1 d2 d3 d4 d5 d6
   refine wp_region_U (fun _ => false) (fun W => Below w3.drew.heap.size w3.drew W) (by kernel_rfl) (closed_below _) (Below.refl _ _) ?_
   apply wpU_tk 0 (some 38)
   ·intro W hW
    have e0 := (K2.drew.below hW).cell 0; have e1 := (K2.drew.below hW).cell 1; have e2 := (K2.drew.below hW).cell 2; have e3 := (K2.drew.below hW).cell 3; have e4 := (K2.drew.below hW).cell 4; have e5 := (K2.drew.below hW).cell 5; have e6 := (K2.drew.below hW).cell 6; have q0 := (K1.drew.below hW).cell 0
    go_simp
    try rfl
   apply wpU_act
   apply Exists.intro
   refine ⟨?_, ?_⟩
   ·go_simp
    try rfl
   refine wpU_call (.bool true) (i := 1) (d := some 39) rfl rfl (by kernel_rfl) (by kernel_rfl) (by kernel_rfl) (by kernel_rfl) (by rfl) ⟨99, #[.agg #[.int .i64 k, .string s1, .string s2, .string s3, .string s4, .string s5, .string s6]], fun W hW => ?_, fun W hW => V W (hp.below (below_step (below_drew hB1) hW))⟩ ?_
   ·rw [ucall_run rfl rfl (enters_of Tryz.func99 (by kernel_rfl) rfl) W]
    go_simp
   apply wpU_act
   apply Exists.intro
   refine ⟨?_, ?_⟩
   ·go_simp
    try rfl
   apply wpU_tk 2 (some 40)
   ·intro W hW
    go_simp
    try rfl
   apply wpU_act
   apply Exists.intro
   refine ⟨?_, ?_⟩
   ·go_simp
    try rfl
   apply wpU_tk 3 (some 41)
   ·intro W hW
    go_simp
    try rfl
   apply wpU_act
   apply Exists.intro
   refine ⟨?_, ?_⟩
   ·go_simp
    try rfl
   apply wpU_tk 4 (some 42)
   ·intro W hW
    go_simp
    try rfl
   apply wpU_act
   apply Exists.intro
   refine ⟨?_, ?_⟩
   ·go_simp
    try rfl
   apply wpU_tk 5 (some 43)
   ·intro W hW
    have e0 := (K2.drew.below hW).cell 0; have e1 := (K2.drew.below hW).cell 1; have e2 := (K2.drew.below hW).cell 2; have e3 := (K2.drew.below hW).cell 3; have e4 := (K2.drew.below hW).cell 4; have e5 := (K2.drew.below hW).cell 5; have e6 := (K2.drew.below hW).cell 6; have q0 := (K1.drew.below hW).cell 0
    go_simp
    try rfl
   apply wpU_act
   apply Exists.intro
   refine ⟨?_, ?_⟩
   ·go_simp
    try rfl
   apply wpU_tk 6 (some 44)
   ·intro W hW
    go_simp
    try rfl
   apply wpU_act
   apply Exists.intro
   refine ⟨?_, ?_⟩
   ·go_simp
    try rfl
   apply wpU_tk 7 (some 45)
   ·intro W hW
    go_simp
    try rfl
   apply wpU_act
   apply Exists.intro
   refine ⟨?_, ?_⟩
   ·go_simp
    try rfl
   apply wpU_tk 8 (some 46)
   ·intro W hW
    have e0 := (K2.drew.below hW).cell 0; have e1 := (K2.drew.below hW).cell 1; have e2 := (K2.drew.below hW).cell 2; have e3 := (K2.drew.below hW).cell 3; have e4 := (K2.drew.below hW).cell 4; have e5 := (K2.drew.below hW).cell 5; have e6 := (K2.drew.below hW).cell 6; have q0 := (K1.drew.below hW).cell 0
    go_simp
    try rfl
   apply wpU_act
   apply Exists.intro
   refine ⟨?_, ?_⟩
   ·go_simp
    try rfl
   refine wpU_call (.bool false) (i := 9) (d := some 47) rfl rfl (by kernel_rfl) (by kernel_rfl) (by kernel_rfl) (by kernel_rfl) (by rfl) ⟨100, #[.slice (some ad) i c, .agg #[.int .i64 k, .string s1, .string s2, .string s3, .string s4, .string s5, .string s6]], fun W hW => ?_, fun W hW => CT W (HQ W (below_step (below_drew hB1) hW))⟩ ?_
   ·rw [ucall_run rfl rfl (enters_of Tryz.func100 (by kernel_rfl) rfl) W]
    go_simp
   apply wpU_act
   apply Exists.intro
   refine ⟨?_, ?_⟩
   ·go_simp
    try rfl
   apply wpU_tk 10 (some 48)
   ·intro W hW
    go_simp
    try rfl
   apply wpU_act
   apply Exists.intro
   refine ⟨?_, ?_⟩
   ·go_simp
    try rfl
   refine wpU_done (by kernel_rfl) (fun W1 hW1 => ?_) _
   go_simp
   go_wp2
   go_roundg m
   case measure => omega
   case rel => exact ⟨by congr 1; omega, by omega, K1.drew.below hW1, below_step (below_drew hB1) hW1⟩
end Go.Proofs.YtociicfjhgfgpaaGreatDoor

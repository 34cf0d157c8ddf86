/- region: slices.Index, slices.Contains of curves: the walks. region: Valid: the walk. -/
import Derived.Test.YtociicfjhgfgpaaGreatDoorR24
set_option linter.unusedVariables false
set_option linter.unusedSimpArgs false
set_option maxHeartbeats 16000000
set_option maxRecDepth 100000
namespace Go.Proofs.YtociicfjhgfgpaaGreatDoor
open Go.RowKit Go.Shelf Go.Lib Go.Proofs.YtociicfjhgfgpaaGreatDoorW.PrintWords
theorem rat_texts (p q : Rat) : ((itx p.num).toList == (itx q.num).toList && (itx (p.den : Int)).toList == (itx (q.den : Int)).toList) = decide (p = q) := by
 rw [itx_eq, itx_eq, Bool.eq_iff_iff]
 simp only [Bool.and_eq_true, decide_eq_true_eq]
 constructor
 ·rintro ⟨h1, h2⟩
  exact Rat.ext h1 (by omega)
 ·rintro rfl
  exact ⟨rfl, rfl⟩
theorem cv_texts (c d : Cv) : (c.1 == d.1 && (((itx c.2.1.num).toList == (itx d.2.1.num).toList && (itx (c.2.1.den : Int)).toList == (itx (d.2.1.den : Int)).toList) && (((itx c.2.2.1.num).toList == (itx d.2.2.1.num).toList && (itx (c.2.2.1.den : Int)).toList == (itx (d.2.2.1.den : Int)).toList) && ((itx c.2.2.2.num).toList == (itx d.2.2.2.num).toList && (itx (c.2.2.2.den : Int)).toList == (itx (d.2.2.2.den : Int)).toList)))) = decide (c = d) := by
 rw [rat_texts, rat_texts, rat_texts, Bool.eq_iff_iff]
 obtain ⟨k, a, b, e⟩ := c
 obtain ⟨k', a', b', e'⟩ := d
 simp
theorem cv_ite {α : Type} (c d : Cv) (x y : α) : (if c.1 = d.1 then if (itx c.2.1.num).toList = (itx d.2.1.num).toList then if (itx (c.2.1.den : Int)).toList = (itx (d.2.1.den : Int)).toList then if (itx c.2.2.1.num).toList = (itx d.2.2.1.num).toList then if (itx (c.2.2.1.den : Int)).toList = (itx (d.2.2.1.den : Int)).toList then if (itx c.2.2.2.num).toList = (itx d.2.2.2.num).toList then if (itx (c.2.2.2.den : Int)).toList = (itx (d.2.2.2.den : Int)).toList then x else y else y else y else y else y else y else y) = if c = d then x else y := by
 have h := cv_texts c d
 by_cases e : c = d
 ·subst e
  simp
 ·rw [if_neg e]
  rw [decide_eq_false e] at h
  simp only [Bool.and_eq_false_iff, beq_eq_false_iff_ne] at h
  rcases h with h | (h | h) | (h | h) | (h | h) <;> simp [h]
def idxI (cs : List Cv) (d : Cv) : Int := if d ∈ cs then (cs.idxOf d : Int) else -1
theorem idxOf_take (cs : List Cv) (d : Cv) (i : Nat) (h : d ∉ cs.take i) (hi : i < cs.length) (he : cs.getD i (0, 0, 0, 0) = d) : d ∈ cs ∧ cs.idxOf d = i := by
 have hg : cs[i]? = some d := by
  rw [List.getD_eq_getElem?_getD, List.getElem?_eq_getElem hi] at he
  rw [List.getElem?_eq_getElem hi]
  exact congrArg some he
 have hm : d ∈ cs := List.mem_of_getElem? hg
 refine ⟨hm, ?_⟩
 conv => lhs; rw [← List.take_append_drop i cs]
 rw [List.idxOf_append, if_neg h, List.drop_eq_getElem_cons hi]
 have : cs[i] = d := by rw [List.getElem?_eq_getElem hi] at hg; exact Option.some.inj hg
 rw [this, List.idxOf_cons_self, List.length_take]
 omega
theorem not_take_succ (cs : List Cv) (d : Cv) (i : Nat) (h : d ∉ cs.take i) (hi : i < cs.length) (he : cs.getD i (0, 0, 0, 0) ≠ d) : d ∉ cs.take (i + 1) := by
 rw [List.take_succ_eq_append_getElem hi]
 intro hm
 rcases List.mem_append.1 hm with h1 | h1
 ·exact h h1
 ·rw [List.getD_eq_getElem?_getD, List.getElem?_eq_getElem hi] at he
  exact he (by simpa using (List.mem_singleton.1 h1).symm)
theorem rg_index (A : Option Addr) (c : Nat) (cs : List Cv) (d : Cv) (w : World) (hq : kCv.C w A cs.length cs) (hc : cs.length ≤ c) :
  Calls Tryz.prog 161 #[.slice A cs.length c, cv d] w fun e w' => e = .returned (.int .i64 (idxI cs d)) ∧ Below w.heap.size w w' := by
 have hmax := hq.2.1
 have TX := fun i (x y : Result Next) => cv_ite d (cs.getD i (0, 0, 0, 0)) x y
 unfold cv
 obtain ⟨k, hk0⟩ : ∃ k, d.1 = k := ⟨_, rfl⟩
 rw [hk0]
 simp only [hk0] at TX
 generalize itx d.2.1.num = s1 at *
 generalize itx (d.2.1.den : Int) = s2 at *
 generalize itx d.2.2.1.num = s3 at *
 generalize itx (d.2.2.1.den : Int) = s4 at *
 generalize itx d.2.2.2.num = s5 at *
 generalize itx (d.2.2.2.den : Int) = s6 at *
 have k0 := Blk.new w #[.int .i64 k, .string s1, .string s2, .string s3, .string s4, .string s5, .string s6] 91
 have hB0 : Below w.heap.size w (w.alloc (.cells #[.int .i64 k, .string s1, .string s2, .string s3, .string s4, .string s5, .string s6] 91)) := bZa (Below.refl _ _) _
 go_enter Tryz.func161, Tryz.ntmps161
 go_wp2
 go_loopg [8] cs.length (fun n v8 w' => v8 = .int .i64 ((cs.length : Int) - (n : Int)) ∧ n ≤ cs.length ∧ d ∉ cs.take (cs.length - n) ∧ Blk w' w.heap.size #[.int .i64 k, .string s1, .string s2, .string s3, .string s4, .string s5, .string s6] 91 ∧ Below w.heap.size w w')
 case atStart => exact ⟨by rw [Int.sub_self], Nat.le_refl _, by simp, k0, hB0⟩
 obtain ⟨rfl, hk, hnot, K0, HB⟩ := hrel
 cases gk with
 | zero =>
  have hlt : decide (((cs.length : Int) - ((0 : Nat) : Int)) < (cs.length : Int)) = false := decide_eq_false (by omega)
  have hn : d ∉ cs := by simpa using hnot
  have HN := Aside0.mk hn
  clear hnot TX hn
  go_wp2
  go_ret
  exact ⟨by unfold idxI; rw [if_neg HN.out]; rfl, HB⟩
 | succ m =>
  obtain ⟨i, hi⟩ : ∃ i : Nat, i + (m + 1) = cs.length := ⟨cs.length - (m + 1), by omega⟩
  rw [show cs.length - (m + 1) = i by omega] at hnot
  rw [show (cs.length : Int) - ((m + 1 : Nat) : Int) = (i : Int) by omega]
  have hlt : ((i : Int) < (cs.length : Int)) = True := eq_true (by omega)
  have h0 : (0 ≤ (i : Int)) = True := eq_true (by omega)
  have hw : wrap64 ((i : Int) + 1) = (i : Int) + 1 := by unfold wrap64; omega
  obtain ⟨ad, rfl, hx0, hx1⟩ := flat_at hq (0, 0, 0, 0) (i : Int) (by omega) (by omega)
  have c0 := hx0 _ rfl
  have c1 := hx1 1 _ (by omega) rfl
  have c2 := hx1 2 _ (by omega) rfl
  have c3 := hx1 3 _ (by omega) rfl
  have c4 := hx1 4 _ (by omega) rfl
  have c5 := hx1 5 _ (by omega) rfl
  have c6 := hx1 6 _ (by omega) rfl
  have T := TX i
  rw [Int.toNat_natCast] at c0 c1 c2 c3 c4 c5 c6
  have HN := Aside0.mk hnot
  have HI := Aside0.mk (show i < cs.length by omega)
  clear hx0 hx1 hq TX hnot hk0
  obtain ⟨e, he⟩ : ∃ e, cs.getD i (0, 0, 0, 0) = e := ⟨_, rfl⟩
  have HE := Aside0.mk he
  rw [he] at c0 c1 c2 c3 c4 c5 c6 T
  clear he
  generalize e.1 = k2 at *
  generalize itx e.2.1.num = t1 at *
  generalize itx (e.2.1.den : Int) = t2 at *
  generalize itx e.2.2.1.num = t3 at *
  generalize itx (e.2.2.1.den : Int) = t4 at *
  generalize itx e.2.2.2.num = t5 at *
  generalize itx (e.2.2.2.den : Int) = t6 at *
  by_cases hde : d = e
  ·simp only [if_pos hde] at T
   have HD := Aside0.mk hde
   clear hde
   go_wp2
   refine rZu (fun _ => false) (fun W => Below wr.drew.heap.size wr.drew W) (by kernel_rfl) (cZb _) (Below.refl _ _) ?_
   refine wpU_g 0 11 (h1 := by intro W hW; have hC := K0.drew.below hW; have e0 := hC.cell 0; have e1 := hC.cell 1; have e2 := hC.cell 2; have e3 := hC.cell 3; have e4 := hC.cell 4; have e5 := hC.cell 5; have e6 := hC.cell 6; clear hC; have j0 := pZc (bZs (bZd HB) hW) c0; have j1 := pZc (bZs (bZd HB) hW) c1; have j2 := pZc (bZs (bZd HB) hW) c2; have j3 := pZc (bZs (bZd HB) hW) c3; have j4 := pZc (bZs (bZd HB) hW) c4; have j5 := pZc (bZs (bZd HB) hW) c5; have j6 := pZc (bZs (bZd HB) hW) c6; go_simp; try rfl) (h2 := ?_)
   apply wpU_d 1 12
   apply wpU_d 2 13
   refine wpU_g 3 14 (h1 := by intro W hW; have hC := K0.drew.below hW; have e0 := hC.cell 0; have e1 := hC.cell 1; have e2 := hC.cell 2; have e3 := hC.cell 3; have e4 := hC.cell 4; have e5 := hC.cell 5; have e6 := hC.cell 6; clear hC; have j0 := pZc (bZs (bZd HB) hW) c0; have j1 := pZc (bZs (bZd HB) hW) c1; have j2 := pZc (bZs (bZd HB) hW) c2; have j3 := pZc (bZs (bZd HB) hW) c3; have j4 := pZc (bZs (bZd HB) hW) c4; have j5 := pZc (bZs (bZd HB) hW) c5; have j6 := pZc (bZs (bZd HB) hW) c6; go_simp; try rfl) (h2 := ?_)
   refine wpU_g 4 15 (h1 := by intro W hW; have hC := K0.drew.below hW; have e0 := hC.cell 0; have e1 := hC.cell 1; have e2 := hC.cell 2; have e3 := hC.cell 3; have e4 := hC.cell 4; have e5 := hC.cell 5; have e6 := hC.cell 6; clear hC; have j0 := pZc (bZs (bZd HB) hW) c0; have j1 := pZc (bZs (bZd HB) hW) c1; have j2 := pZc (bZs (bZd HB) hW) c2; have j3 := pZc (bZs (bZd HB) hW) c3; have j4 := pZc (bZs (bZd HB) hW) c4; have j5 := pZc (bZs (bZd HB) hW) c5; have j6 := pZc (bZs (bZd HB) hW) c6; go_simp; try rfl) (h2 := ?_)
   apply wpU_d 5 16
   refine wpU_done (by kernel_rfl) (fun W1 hW1 => ?_) _
   go_simp
   go_wp2
   go_ret
   have hx := idxOf_take cs d i HN.out HI.out (HE.out.trans HD.out.symm)
   exact ⟨by unfold idxI; rw [if_pos hx.1, hx.2]; rfl, bZs (bZd HB) hW1⟩
  ·simp only [if_neg hde] at T
   have HD := Aside0.mk hde
   clear hde
   go_wp2
   refine rZu (fun _ => false) (fun W => Below wr.drew.heap.size wr.drew W) (by kernel_rfl) (cZb _) (Below.refl _ _) ?_
   refine wpU_g 0 11 (h1 := by intro W hW; have hC := K0.drew.below hW; have e0 := hC.cell 0; have e1 := hC.cell 1; have e2 := hC.cell 2; have e3 := hC.cell 3; have e4 := hC.cell 4; have e5 := hC.cell 5; have e6 := hC.cell 6; clear hC; have j0 := pZc (bZs (bZd HB) hW) c0; have j1 := pZc (bZs (bZd HB) hW) c1; have j2 := pZc (bZs (bZd HB) hW) c2; have j3 := pZc (bZs (bZd HB) hW) c3; have j4 := pZc (bZs (bZd HB) hW) c4; have j5 := pZc (bZs (bZd HB) hW) c5; have j6 := pZc (bZs (bZd HB) hW) c6; go_simp; try rfl) (h2 := ?_)
   apply wpU_d 1 12
   apply wpU_d 2 13
   refine wpU_g 3 14 (h1 := by intro W hW; have hC := K0.drew.below hW; have e0 := hC.cell 0; have e1 := hC.cell 1; have e2 := hC.cell 2; have e3 := hC.cell 3; have e4 := hC.cell 4; have e5 := hC.cell 5; have e6 := hC.cell 6; clear hC; have j0 := pZc (bZs (bZd HB) hW) c0; have j1 := pZc (bZs (bZd HB) hW) c1; have j2 := pZc (bZs (bZd HB) hW) c2; have j3 := pZc (bZs (bZd HB) hW) c3; have j4 := pZc (bZs (bZd HB) hW) c4; have j5 := pZc (bZs (bZd HB) hW) c5; have j6 := pZc (bZs (bZd HB) hW) c6; go_simp; try rfl) (h2 := ?_)
   refine wpU_g 4 15 (h1 := by intro W hW; have hC := K0.drew.below hW; have e0 := hC.cell 0; have e1 := hC.cell 1; have e2 := hC.cell 2; have e3 := hC.cell 3; have e4 := hC.cell 4; have e5 := hC.cell 5; have e6 := hC.cell 6; clear hC; have j0 := pZc (bZs (bZd HB) hW) c0; have j1 := pZc (bZs (bZd HB) hW) c1; have j2 := pZc (bZs (bZd HB) hW) c2; have j3 := pZc (bZs (bZd HB) hW) c3; have j4 := pZc (bZs (bZd HB) hW) c4; have j5 := pZc (bZs (bZd HB) hW) c5; have j6 := pZc (bZs (bZd HB) hW) c6; go_simp; try rfl) (h2 := ?_)
   apply wpU_d 5 16
   refine wpU_done (by kernel_rfl) (fun W1 hW1 => ?_) _
   go_simp
   go_wp2
   go_roundg m
   case measure => omega
   case rel => exact ⟨by congr 1; omega, by omega, by rw [show cs.length - m = i + 1 by omega]; exact not_take_succ cs d i HN.out HI.out (by rw [HE.out]; exact fun h => HD.out h.symm), K0.drew.below hW1, bZs (bZd HB) hW1⟩
theorem rg_contains (A : Option Addr) (c : Nat) (cs : List Cv) (d : Cv) (w : World) (hq : kCv.C w A cs.length cs) (hc : cs.length ≤ c) :
  Calls Tryz.prog 100 #[.slice A cs.length c, cv d] w fun e w' => e = .returned (.bool (decide (d ∈ cs))) ∧ Below w.heap.size w w' := by
 have V := fun W hq => rg_index A c cs d W hq hc
 have hz : decide (idxI cs d ≥ 0) = decide (d ∈ cs) := by
  unfold idxI
  split <;> rename_i h
  ·rw [decide_eq_true h]; exact decide_eq_true (by omega)
  ·rw [decide_eq_false h]; exact decide_eq_false (by omega)
 generalize decide (d ∈ cs) = bb at *
 generalize idxI cs d = z at *
 unfold cv at *
 generalize d.1 = k at *
 generalize itx d.2.1.num = s1 at *
 generalize itx (d.2.1.den : Int) = s2 at *
 generalize itx d.2.2.1.num = s3 at *
 generalize itx (d.2.2.1.den : Int) = s4 at *
 generalize itx d.2.2.2.num = s5 at *
 generalize itx (d.2.2.2.den : Int) = s6 at *
 have hB0 : Below w.heap.size w (w.alloc (.cells #[.int .i64 k, .string s1, .string s2, .string s3, .string s4, .string s5, .string s6] 91)) := bZa (Below.refl _ _) _
 go_enter Tryz.func100, Tryz.ntmps100
 go_wp2_with (go_at_call 161; refine (V _ (Kd.C_below hq hB0)).mono ?_; clear V; rintro e w2 ⟨rfl, hb2⟩)
 go_ret
 exact ⟨rfl, bZs hB0 hb2⟩
theorem rg_within (k n : Int) (w : World) (h0 : 0 ≤ k) (h1 : k < n) :
  Calls Tryz.prog 101 #[.int .i64 k, .int .i64 n] w fun e w' => e = .returned (.bool true) ∧ w' = w := by
 have d0 : decide (0 ≤ k) = true := decide_eq_true h0
 have d1 : decide (k < n) = true := decide_eq_true h1
 go_enter Tryz.func101, Tryz.ntmps101
 go_wp2
 go_ret
 exact ⟨rfl, rfl⟩
theorem nodup_take {cs : List Cv} (h : cs.Nodup) (i : Nat) (hi : i < cs.length) : cs.getD i (0, 0, 0, 0) ∉ cs.take i := by
 rw [List.getD_eq_getElem?_getD, List.getElem?_eq_getElem hi]
 have e : cs = cs.take i ++ cs.drop i := (List.take_append_drop i cs).symm
 rw [e, List.nodup_append] at h
 intro hm
 refine h.2.2 _ hm _ ?_ rfl
 rw [List.drop_eq_getElem_cons hi]
 exact List.mem_cons_self
theorem rg_Valid (v : Value) (r : Rg) (w : World) (hp : Pow w) (hv : RdR w v r) (hok : okR r) (hs : ∀ c ∈ r.1, SqC c) :
  Calls Tryz.prog 40 #[v] w fun e w' => e = .returned (.bool true) ∧ Below w.heap.size w w' := by
 obtain ⟨cs, ns⟩ := r
 obtain ⟨u, n, rfl, ⟨A, c, rfl, hc, hq⟩, ⟨B, d, rfl, hd, hn⟩⟩ := hv
 obtain ⟨hnc, hnn, hsome, hnodup, hcv, hnd⟩ := hok
 dsimp only at *
 have k0 := Blk.new w #[.slice A cs.length c, .slice B ns.length d] 42
 have hB0 : Below w.heap.size w (w.alloc (.cells #[.slice A cs.length c, .slice B ns.length d] 42)) := bZa (Below.refl _ _) _
 have g1 : decide ((cs.length : Int) > 24) = false := decide_eq_false (by omega)
 have g2 : decide ((ns.length : Int) > 120) = false := decide_eq_false (by omega)
 have key : ((ns.length : Int) == 0) = false ∨ (((ns.length : Int) == 0) = true ∧ decide (0 < cs.length) = false) := by
  by_cases h : ns = []
  ·right
   rw [hsome h, h]
   exact ⟨rfl, rfl⟩
  ·left
   have := List.length_pos_iff.2 h
   exact beq_eq_false_iff_ne.2 (by omega)
 have CS := Aside0.mk hcv
 have SS := Aside0.mk hs
 have ND := Aside0.mk hnodup
 have NN := Aside0.mk hnd
 have e101 : ∀ args w, (callFunc 101 args).run Tryz.prog w = .ok (.enter 101 args) w := enters_of Tryz.func101 (by kernel_rfl) rfl
 clear hcv hs hnodup hnd hsome
 go_enter Tryz.func40, Tryz.ntmps40
 rcases key with g3 | ⟨g3, g4⟩
 ·go_wp2
  go_loopg [33] cs.length (fun m v33 w' => v33 = .int .i64 ((cs.length : Int) - (m : Int)) ∧ m ≤ cs.length ∧ Blk w' w.heap.size #[.slice A cs.length c, .slice B ns.length d] 42 ∧ Below w.heap.size w w')
  case atStart => exact ⟨by rw [Int.sub_self], Nat.le_refl _, k0, hB0⟩
  obtain ⟨rfl, hk, K0, HB⟩ := hrel
  cases gk with
  | zero =>
   have hlt : decide (((cs.length : Int) - ((0 : Nat) : Int)) < (cs.length : Int)) = false := decide_eq_false (by omega)
   have e1 := K0.cell 1
   go_wp2
   clear CS SS ND g1 g2 hnc hnn
   go_loopg [53] ns.length (fun m v53 w' => v53 = .int .i64 ((ns.length : Int) - (m : Int)) ∧ m ≤ ns.length ∧ Blk w' w.heap.size #[.slice A cs.length c, .slice B ns.length d] 42 ∧ Below w.heap.size w w')
   case atStart => exact ⟨by rw [Int.sub_self], Nat.le_refl _, K0, HB⟩
   clear K0 HB
   obtain ⟨rfl, hk, K0, HB⟩ := hrel
   cases gk with
   | zero =>
    have hlt : decide (((ns.length : Int) - ((0 : Nat) : Int)) < (ns.length : Int)) = false := decide_eq_false (by omega)
    go_wp2
    go_ret
    exact ⟨rfl, HB⟩
   | succ m =>
    obtain ⟨i, hi⟩ : ∃ i : Nat, i + (m + 1) = ns.length := ⟨ns.length - (m + 1), by omega⟩
    rw [show (ns.length : Int) - ((m + 1 : Nat) : Int) = (i : Int) by omega]
    have hlt : ((i : Int) < (ns.length : Int)) = True := eq_true (by omega)
    have h0 : (0 ≤ (i : Int)) = True := eq_true (by omega)
    have hw : wrap64 ((i : Int) + 1) = (i : Int) + 1 := by have := hn.2.1; unfold wrap64; omega
    have hgt : ns[i]? = some (ns.getD i (0, 0, 0, 0)) := by
     rw [List.getD_eq_getElem?_getD, List.getElem?_eq_getElem (show i < ns.length by omega)]
     rfl
    have OK := okNds_get NN.out hgt
    rw [Nat.zero_add] at OK
    obtain ⟨bd, rfl, hx0, hx1⟩ := flat_at hn (0, 0, 0, 0) (i : Int) (by omega) (by omega)
    have c0 := hx0 _ rfl
    have c1 := hx1 1 _ (by omega) rfl
    have c2 := hx1 2 _ (by omega) rfl
    have c3 := hx1 3 _ (by omega) rfl
    rw [Int.toNat_natCast] at c0 c1 c2 c3
    clear hx0 hx1 hgt
    generalize ns.getD i (0, 0, 0, 0) = e at *
    obtain ⟨p, x, l, r⟩ := e
    dsimp only at c0 c1 c2 c3 OK
    have d0 := pZc HB c0
    have d1 := pZc HB c1
    have d2 := pZc HB c2
    have d3 := pZc HB c3
    clear c0 c1 c2 c3
    have hB1 := bZa HB (.cells #[.int .i64 p, .int .i64 x, .int .i64 l, .int .i64 r] 93)
    have K1 := K0.alloc (.cells #[.int .i64 p, .int .i64 x, .int .i64 l, .int .i64 r] 93)
    have e0 := K1.cell 0
    rcases OK with ⟨hp1, hx0, hx1, hl, hr⟩ | ⟨hp1, hx, hl0, hl1, hr0, hr1⟩
    ·dsimp only at *
     subst hp1 hl hr
     have W1 := fun W => rg_within x (cs.length : Int) W hx0 (by omega)
     go_wp2_with (go_at_fn 101; refine (W1 _).mono ?_; clear W1; rintro e w2 ⟨rfl, rfl⟩)
     go_roundg m
     case measure => omega
     case rel => exact ⟨by congr 1; omega, by omega, K1, hB1⟩
    ·dsimp only at *
     subst hx
     have W1 := fun W => rg_within l (i : Int) W hl0 (by omega)
     have W2 := fun W => rg_within r (i : Int) W hr0 (by omega)
     rcases hp1 with rfl | rfl | rfl
     all_goals
      go_wp2_with (first | (go_at_fn 101; refine (W1 _).mono ?_; clear W1; rintro e w2 ⟨rfl, rfl⟩) | (go_at_fn 101; refine (W2 _).mono ?_; clear W2; rintro e w2 ⟨rfl, rfl⟩))
      go_roundg m
      case measure => omega
      case rel => exact ⟨by congr 1; omega, by omega, K1, hB1⟩
  | succ m =>
   obtain ⟨i, hi⟩ : ∃ i : Nat, i + (m + 1) = cs.length := ⟨cs.length - (m + 1), by omega⟩
   rw [show (cs.length : Int) - ((m + 1 : Nat) : Int) = (i : Int) by omega]
   have hlt : ((i : Int) < (cs.length : Int)) = True := eq_true (by omega)
   have h0 : (0 ≤ (i : Int)) = True := eq_true (by omega)
   have hcap : ((i : Int) ≤ (c : Int)) = True := eq_true (by omega)
   have hw : wrap64 ((i : Int) + 1) = (i : Int) + 1 := by unfold wrap64; omega
   obtain ⟨ad, rfl, hx0, hx1⟩ := flat_at hq (0, 0, 0, 0) (i : Int) (by omega) (by omega)
   have c0 := hx0 _ rfl
   have c1 := hx1 1 _ (by omega) rfl
   have c2 := hx1 2 _ (by omega) rfl
   have c3 := hx1 3 _ (by omega) rfl
   have c4 := hx1 4 _ (by omega) rfl
   have c5 := hx1 5 _ (by omega) rfl
   have c6 := hx1 6 _ (by omega) rfl
   rw [Int.toNat_natCast] at c0 c1 c2 c3 c4 c5 c6
   clear hx0 hx1
   have hm := getD_mem (xs := cs) (i := i) (z := (0, 0, 0, 0)) (by omega)
   have V := fun W hp => rg_validCurve (cs.getD i (0, 0, 0, 0)) W hp (CS.out _ hm) (SS.out _ hm)
   have CT := fun W hq => rg_contains (some ad) c (cs.take i) (cs.getD i (0, 0, 0, 0)) W hq (by rw [List.length_take]; omega)
   rw [decide_eq_false (nodup_take ND.out i (by omega)), show (cs.take i).length = i by rw [List.length_take]; omega] at CT
   clear hm
   have HQ : ∀ W, Below w.heap.size w W → kCv.C W (some ad) i (cs.take i) := fun W hb => by
    have := Kd.C_take (Kd.C_below hq hb) (show i ≤ cs.length by omega)
    rwa [show (cs.take i).length = i by rw [List.length_take]; omega] at this
   unfold cv at V CT
   generalize cs.getD i (0, 0, 0, 0) = e at *
   generalize e.1 = k at *
   generalize itx e.2.1.num = s1 at *
   generalize itx (e.2.1.den : Int) = s2 at *
   generalize itx e.2.2.1.num = s3 at *
   generalize itx (e.2.2.1.den : Int) = s4 at *
   generalize itx e.2.2.2.num = s5 at *
   generalize itx (e.2.2.2.den : Int) = s6 at *
   have d0 := pZc HB c0
   have d1 := pZc HB c1
   have d2 := pZc HB c2
   have d3 := pZc HB c3
   have d4 := pZc HB c4
   have d5 := pZc HB c5
   have d6 := pZc HB c6
   clear c0 c1 c2 c3 c4 c5 c6
   go_wp2
   have hB1 := bZa HB (.cells #[.int .i64 k, .string s1, .string s2, .string s3, .string s4, .string s5, .string s6] 91)
   have K1 := K0.alloc (.cells #[.int .i64 k, .string s1, .string s2, .string s3, .string s4, .string s5, .string s6] 91)
   have K2 := Blk.new wr #[.int .i64 k, .string s1, .string s2, .string s3, .string s4, .string s5, .string s6] 91
   generalize hg : wr.heap.size = g at *
   generalize hw3 : wr.alloc (.cells #[.int .i64 k, .string s1, .string s2, .string s3, .string s4, .string s5, .string s6] 91) = w3 at *
   clear hg hw3 d0 d1 d2 d3 d4 d5 d6
   refine rZu (fun _ => false) (fun W => Below w3.drew.heap.size w3.drew W) (by kernel_rfl) (cZb _) (Below.refl _ _) ?_
   refine wpU_f 0 38 (h1 := by intro W hW; have hC := K2.drew.below hW; have e0 := hC.cell 0; have e1 := hC.cell 1; have e2 := hC.cell 2; have e3 := hC.cell 3; have e4 := hC.cell 4; have e5 := hC.cell 5; have e6 := hC.cell 6; clear hC; have q0 := (K1.drew.below hW).cell 0; go_simp; try rfl) (h3 := ?_)
   refine wpU_ca 1 39 Tryz.func99 (fun W hW => V W (hp.below (bZs (bZd hB1) hW))) ?_
   refine wpU_ac ?_
   apply wpU_e 2 40
   apply wpU_e 3 41
   apply wpU_e 4 42
   refine wpU_f 5 43 (h1 := by intro W hW; have hC := K2.drew.below hW; have e0 := hC.cell 0; have e1 := hC.cell 1; have e2 := hC.cell 2; have e3 := hC.cell 3; have e4 := hC.cell 4; have e5 := hC.cell 5; have e6 := hC.cell 6; clear hC; have q0 := (K1.drew.below hW).cell 0; go_simp; try rfl) (h3 := ?_)
   apply wpU_e 6 44
   apply wpU_e 7 45
   refine wpU_f 8 46 (h1 := by intro W hW; have hC := K2.drew.below hW; have e0 := hC.cell 0; have e1 := hC.cell 1; have e2 := hC.cell 2; have e3 := hC.cell 3; have e4 := hC.cell 4; have e5 := hC.cell 5; have e6 := hC.cell 6; clear hC; have q0 := (K1.drew.below hW).cell 0; go_simp; try rfl) (h3 := ?_)
   refine wpU_ca 9 47 Tryz.func100 (fun W hW => CT W (HQ W (bZs (bZd hB1) hW))) ?_
   refine wpU_ac ?_
   apply wpU_e 10 48
   refine wpU_done (by kernel_rfl) (fun W1 hW1 => ?_) _
   go_simp
   go_wp2
   go_roundg m
   case measure => omega
   case rel => exact ⟨by congr 1; omega, by omega, K1.drew.below hW1, bZs (bZd hB1) hW1⟩
 ·go_wp2
  go_loopg [33] cs.length (fun m v33 w' => v33 = .int .i64 ((cs.length : Int) - (m : Int)) ∧ m ≤ cs.length ∧ Blk w' w.heap.size #[.slice A cs.length c, .slice B ns.length d] 42 ∧ Below w.heap.size w w')
  case atStart => exact ⟨by rw [Int.sub_self], Nat.le_refl _, k0, hB0⟩
  obtain ⟨rfl, hk, K0, HB⟩ := hrel
  cases gk with
  | zero =>
   have hlt : decide (((cs.length : Int) - ((0 : Nat) : Int)) < (cs.length : Int)) = false := decide_eq_false (by omega)
   have e1 := K0.cell 1
   go_wp2
   clear CS SS ND g1 g2 hnc hnn
   go_loopg [53] ns.length (fun m v53 w' => v53 = .int .i64 ((ns.length : Int) - (m : Int)) ∧ m ≤ ns.length ∧ Blk w' w.heap.size #[.slice A cs.length c, .slice B ns.length d] 42 ∧ Below w.heap.size w w')
   case atStart => exact ⟨by rw [Int.sub_self], Nat.le_refl _, K0, HB⟩
   clear K0 HB
   obtain ⟨rfl, hk, K0, HB⟩ := hrel
   cases gk with
   | zero =>
    have hlt : decide (((ns.length : Int) - ((0 : Nat) : Int)) < (ns.length : Int)) = false := decide_eq_false (by omega)
    go_wp2
    go_ret
    exact ⟨rfl, HB⟩
   | succ m =>
    obtain ⟨i, hi⟩ : ∃ i : Nat, i + (m + 1) = ns.length := ⟨ns.length - (m + 1), by omega⟩
    rw [show (ns.length : Int) - ((m + 1 : Nat) : Int) = (i : Int) by omega]
    have hlt : ((i : Int) < (ns.length : Int)) = True := eq_true (by omega)
    have h0 : (0 ≤ (i : Int)) = True := eq_true (by omega)
    have hw : wrap64 ((i : Int) + 1) = (i : Int) + 1 := by have := hn.2.1; unfold wrap64; omega
    have hgt : ns[i]? = some (ns.getD i (0, 0, 0, 0)) := by
     rw [List.getD_eq_getElem?_getD, List.getElem?_eq_getElem (show i < ns.length by omega)]
     rfl
    have OK := okNds_get NN.out hgt
    rw [Nat.zero_add] at OK
    obtain ⟨bd, rfl, hx0, hx1⟩ := flat_at hn (0, 0, 0, 0) (i : Int) (by omega) (by omega)
    have c0 := hx0 _ rfl
    have c1 := hx1 1 _ (by omega) rfl
    have c2 := hx1 2 _ (by omega) rfl
    have c3 := hx1 3 _ (by omega) rfl
    rw [Int.toNat_natCast] at c0 c1 c2 c3
    clear hx0 hx1 hgt
    generalize ns.getD i (0, 0, 0, 0) = e at *
    obtain ⟨p, x, l, r⟩ := e
    dsimp only at c0 c1 c2 c3 OK
    have d0 := pZc HB c0
    have d1 := pZc HB c1
    have d2 := pZc HB c2
    have d3 := pZc HB c3
    clear c0 c1 c2 c3
    have hB1 := bZa HB (.cells #[.int .i64 p, .int .i64 x, .int .i64 l, .int .i64 r] 93)
    have K1 := K0.alloc (.cells #[.int .i64 p, .int .i64 x, .int .i64 l, .int .i64 r] 93)
    have e0 := K1.cell 0
    rcases OK with ⟨hp1, hx0, hx1, hl, hr⟩ | ⟨hp1, hx, hl0, hl1, hr0, hr1⟩
    ·dsimp only at *
     subst hp1 hl hr
     have W1 := fun W => rg_within x (cs.length : Int) W hx0 (by omega)
     go_wp2_with (go_at_fn 101; refine (W1 _).mono ?_; clear W1; rintro e w2 ⟨rfl, rfl⟩)
     go_roundg m
     case measure => omega
     case rel => exact ⟨by congr 1; omega, by omega, K1, hB1⟩
    ·dsimp only at *
     subst hx
     have W1 := fun W => rg_within l (i : Int) W hl0 (by omega)
     have W2 := fun W => rg_within r (i : Int) W hr0 (by omega)
     rcases hp1 with rfl | rfl | rfl
     all_goals
      go_wp2_with (first | (go_at_fn 101; refine (W1 _).mono ?_; clear W1; rintro e w2 ⟨rfl, rfl⟩) | (go_at_fn 101; refine (W2 _).mono ?_; clear W2; rintro e w2 ⟨rfl, rfl⟩))
      go_roundg m
      case measure => omega
      case rel => exact ⟨by congr 1; omega, by omega, K1, hB1⟩
  | succ m =>
   obtain ⟨i, hi⟩ : ∃ i : Nat, i + (m + 1) = cs.length := ⟨cs.length - (m + 1), by omega⟩
   rw [show (cs.length : Int) - ((m + 1 : Nat) : Int) = (i : Int) by omega]
   have hlt : ((i : Int) < (cs.length : Int)) = True := eq_true (by omega)
   have h0 : (0 ≤ (i : Int)) = True := eq_true (by omega)
   have hcap : ((i : Int) ≤ (c : Int)) = True := eq_true (by omega)
   have hw : wrap64 ((i : Int) + 1) = (i : Int) + 1 := by unfold wrap64; omega
   obtain ⟨ad, rfl, hx0, hx1⟩ := flat_at hq (0, 0, 0, 0) (i : Int) (by omega) (by omega)
   have c0 := hx0 _ rfl
   have c1 := hx1 1 _ (by omega) rfl
   have c2 := hx1 2 _ (by omega) rfl
   have c3 := hx1 3 _ (by omega) rfl
   have c4 := hx1 4 _ (by omega) rfl
   have c5 := hx1 5 _ (by omega) rfl
   have c6 := hx1 6 _ (by omega) rfl
   rw [Int.toNat_natCast] at c0 c1 c2 c3 c4 c5 c6
   clear hx0 hx1
   have hm := getD_mem (xs := cs) (i := i) (z := (0, 0, 0, 0)) (by omega)
   have V := fun W hp => rg_validCurve (cs.getD i (0, 0, 0, 0)) W hp (CS.out _ hm) (SS.out _ hm)
   have CT := fun W hq => rg_contains (some ad) c (cs.take i) (cs.getD i (0, 0, 0, 0)) W hq (by rw [List.length_take]; omega)
   rw [decide_eq_false (nodup_take ND.out i (by omega)), show (cs.take i).length = i by rw [List.length_take]; omega] at CT
   clear hm
   have HQ : ∀ W, Below w.heap.size w W → kCv.C W (some ad) i (cs.take i) := fun W hb => by
    have := Kd.C_take (Kd.C_below hq hb) (show i ≤ cs.length by omega)
    rwa [show (cs.take i).length = i by rw [List.length_take]; omega] at this
   unfold cv at V CT
   generalize cs.getD i (0, 0, 0, 0) = e at *
   generalize e.1 = k at *
   generalize itx e.2.1.num = s1 at *
   generalize itx (e.2.1.den : Int) = s2 at *
   generalize itx e.2.2.1.num = s3 at *
   generalize itx (e.2.2.1.den : Int) = s4 at *
   generalize itx e.2.2.2.num = s5 at *
   generalize itx (e.2.2.2.den : Int) = s6 at *
   have d0 := pZc HB c0
   have d1 := pZc HB c1
   have d2 := pZc HB c2
   have d3 := pZc HB c3
   have d4 := pZc HB c4
   have d5 := pZc HB c5
   have d6 := pZc HB c6
   clear c0 c1 c2 c3 c4 c5 c6
   go_wp2
   have hB1 := bZa HB (.cells #[.int .i64 k, .string s1, .string s2, .string s3, .string s4, .string s5, .string s6] 91)
   have K1 := K0.alloc (.cells #[.int .i64 k, .string s1, .string s2, .string s3, .string s4, .string s5, .string s6] 91)
   have K2 := Blk.new wr #[.int .i64 k, .string s1, .string s2, .string s3, .string s4, .string s5, .string s6] 91
   generalize hg : wr.heap.size = g at *
   generalize hw3 : wr.alloc (.cells #[.int .i64 k, .string s1, .string s2, .string s3, .string s4, .string s5, .string s6] 91) = w3 at *
   clear hg hw3 d0 d1 d2 d3 d4 d5 d6
   refine rZu (fun _ => false) (fun W => Below w3.drew.heap.size w3.drew W) (by kernel_rfl) (cZb _) (Below.refl _ _) ?_
   refine wpU_f 0 38 (h1 := by intro W hW; have hC := K2.drew.below hW; have e0 := hC.cell 0; have e1 := hC.cell 1; have e2 := hC.cell 2; have e3 := hC.cell 3; have e4 := hC.cell 4; have e5 := hC.cell 5; have e6 := hC.cell 6; clear hC; have q0 := (K1.drew.below hW).cell 0; go_simp; try rfl) (h3 := ?_)
   refine wpU_ca 1 39 Tryz.func99 (fun W hW => V W (hp.below (bZs (bZd hB1) hW))) ?_
   refine wpU_ac ?_
   apply wpU_e 2 40
   apply wpU_e 3 41
   apply wpU_e 4 42
   refine wpU_f 5 43 (h1 := by intro W hW; have hC := K2.drew.below hW; have e0 := hC.cell 0; have e1 := hC.cell 1; have e2 := hC.cell 2; have e3 := hC.cell 3; have e4 := hC.cell 4; have e5 := hC.cell 5; have e6 := hC.cell 6; clear hC; have q0 := (K1.drew.below hW).cell 0; go_simp; try rfl) (h3 := ?_)
   apply wpU_e 6 44
   apply wpU_e 7 45
   refine wpU_f 8 46 (h1 := by intro W hW; have hC := K2.drew.below hW; have e0 := hC.cell 0; have e1 := hC.cell 1; have e2 := hC.cell 2; have e3 := hC.cell 3; have e4 := hC.cell 4; have e5 := hC.cell 5; have e6 := hC.cell 6; clear hC; have q0 := (K1.drew.below hW).cell 0; go_simp; try rfl) (h3 := ?_)
   refine wpU_ca 9 47 Tryz.func100 (fun W hW => CT W (HQ W (bZs (bZd hB1) hW))) ?_
   refine wpU_ac ?_
   apply wpU_e 10 48
   refine wpU_done (by kernel_rfl) (fun W1 hW1 => ?_) _
   go_simp
   go_wp2
   go_roundg m
   case measure => omega
   case rel => exact ⟨by congr 1; omega, by omega, K1.drew.below hW1, bZs (bZd hB1) hW1⟩
end Go.Proofs.YtociicfjhgfgpaaGreatDoor

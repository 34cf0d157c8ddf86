/- region: slices.Index, slices.Contains of curves: the walks. -/
import Derived.Test.YtociicfjhgfgpaaGreatDoorM27
set_option linter.unusedVariables false
set_option linter.unusedSimpArgs false
namespace Go.Proofs.YtociicfjhgfgpaaGreatDoor
open Go.RowKit Go.Shelf Go.Lib Go.Proofs.YtociicfjhgfgpaaGreatDoorW.PrintWords
theorem rat_texts (p q : Rat) : ((itx p.num).toList == (itx q.num).toList && (itx (p.den : Int)).toList == (itx (q.den : Int)).toList) = decide (p = q) := by
 rw [itx_eq, itx_eq, Bool.eq_iff_iff]
 simp only [Bool.and_eq_true, decide_eq_true_eq]
 constructor
 ·rintro ⟨h1, h2⟩
  exact Rat.ext h1 (by omega)
 ·rintro rfl
  exact ⟨rfl, rfl⟩
theorem cv_texts (c d : Cv) : (c.1 == d.1 && (((itx c.2.1.num).toList == (itx d.2.1.num).toList && (itx (c.2.1.den : Int)).toList == (itx (d.2.1.den : Int)).toList) && (((itx c.2.2.1.num).toList == (itx d.2.2.1.num).toList && (itx (c.2.2.1.den : Int)).toList == (itx (d.2.2.1.den : Int)).toList) && ((itx c.2.2.2.num).toList == (itx d.2.2.2.num).toList && (itx (c.2.2.2.den : Int)).toList == (itx (d.2.2.2.den : Int)).toList)))) = decide (c = d) := by
 rw [rat_texts, rat_texts, rat_texts, Bool.eq_iff_iff]
 obtain ⟨k, a, b, e⟩ := c
 obtain ⟨k', a', b', e'⟩ := d
 simp
theorem cv_ite {α : Type} (c d : Cv) (x y : α) : (if c.1 = d.1 then if (itx c.2.1.num).toList = (itx d.2.1.num).toList then if (itx (c.2.1.den : Int)).toList = (itx (d.2.1.den : Int)).toList then if (itx c.2.2.1.num).toList = (itx d.2.2.1.num).toList then if (itx (c.2.2.1.den : Int)).toList = (itx (d.2.2.1.den : Int)).toList then if (itx c.2.2.2.num).toList = (itx d.2.2.2.num).toList then if (itx (c.2.2.2.den : Int)).toList = (itx (d.2.2.2.den : Int)).toList then x else y else y else y else y else y else y else y) = if c = d then x else y := by
 have h := cv_texts c d
 by_cases e : c = d
 ·subst e
  simp
 ·rw [if_neg e]
  rw [decide_eq_false e] at h
  simp only [Bool.and_eq_false_iff, beq_eq_false_iff_ne] at h
  rcases h with h | (h | h) | (h | h) | (h | h) <;> simp [h]
def idxI (cs : List Cv) (d : Cv) : Int := if d ∈ cs then (cs.idxOf d : Int) else -1
theorem idxOf_take (cs : List Cv) (d : Cv) (i : Nat) (h : d ∉ cs.take i) (hi : i < cs.length) (he : cs.getD i (0, 0, 0, 0) = d) : d ∈ cs ∧ cs.idxOf d = i := by
 have hg : cs[i]? = some d := by
  rw [List.getD_eq_getElem?_getD, List.getElem?_eq_getElem hi] at he
  rw [List.getElem?_eq_getElem hi]
  exact congrArg some he
 have hm : d ∈ cs := List.mem_of_getElem? hg
 refine ⟨hm, ?_⟩
 conv => lhs; rw [← List.take_append_drop i cs]
 rw [List.idxOf_append, if_neg h, List.drop_eq_getElem_cons hi]
 have : cs[i] = d := by rw [List.getElem?_eq_getElem hi] at hg; exact Option.some.inj hg
 rw [this, List.idxOf_cons_self, List.length_take]
 omega
theorem not_take_succ (cs : List Cv) (d : Cv) (i : Nat) (h : d ∉ cs.take i) (hi : i < cs.length) (he : cs.getD i (0, 0, 0, 0) ≠ d) : d ∉ cs.take (i + 1) := by
 rw [List.take_succ_eq_append_getElem hi]
 intro hm
 rcases List.mem_append.1 hm with h1 | h1
 ·exact h h1
 ·rw [List.getD_eq_getElem?_getD, List.getElem?_eq_getElem hi] at he
  exact he (by simpa using (List.mem_singleton.1 h1).symm)
set_option maxHeartbeats 8000000 in
set_option maxRecDepth 100000 in
theorem rg_index (A : Option Addr) (c : Nat) (cs : List Cv) (d : Cv) (w : World) (hq : kCv.C w A cs.length cs) (hc : cs.length ≤ c) :
  Calls Tryz.prog 161 #[.slice A cs.length c, cv d] w fun e w' => e = .returned (.int .i64 (idxI cs d)) ∧ Below w.heap.size w w' := by
 have hmax := hq.2.1
 have TX := fun i (x y : Result Next) => cv_ite d (cs.getD i (0, 0, 0, 0)) x y
 unfold cv
 obtain ⟨k, hk0⟩ : ∃ k, d.1 = k := ⟨_, rfl⟩
 rw [hk0]
 simp only [hk0] at TX
 generalize itx d.2.1.num = s1 at *
 generalize itx (d.2.1.den : Int) = s2 at *
 generalize itx d.2.2.1.num = s3 at *
 generalize itx (d.2.2.1.den : Int) = s4 at *
 generalize itx d.2.2.2.num = s5 at *
 generalize itx (d.2.2.2.den : Int) = s6 at *
 have k0 := Blk.new w #[.int .i64 k, .string s1, .string s2, .string s3, .string s4, .string s5, .string s6] 91
 have hB0 : Below w.heap.size w (w.alloc (.cells #[.int .i64 k, .string s1, .string s2, .string s3, .string s4, .string s5, .string s6] 91)) := below_alloc (Below.refl _ _) _
 go_enter Tryz.func161, Tryz.ntmps161
 go_wp2
 go_loopg [8] cs.length (fun n v8 w' => v8 = .int .i64 ((cs.length : Int) - (n : Int)) ∧ n ≤ cs.length ∧ d ∉ cs.take (cs.length - n) ∧ Blk w' w.heap.size #[.int .i64 k, .string s1, .string s2, .string s3, .string s4, .string s5, .string s6] 91 ∧ Below w.heap.size w w')
 case atStart => exact ⟨by rw [Int.sub_self], Nat.le_refl _, by simp, k0, hB0⟩
 obtain ⟨rfl, hk, hnot, K0, HB⟩ := hrel
 cases gk with
 | zero =>
  have hlt : decide (((cs.length : Int) - ((0 : Nat) : Int)) < (cs.length : Int)) = false := decide_eq_false (by omega)
  have hn : d ∉ cs := by simpa using hnot
  have HN := Aside0.mk hn
  clear hnot TX hn
  go_wp2
  go_ret
  exact ⟨by unfold idxI; rw [if_neg HN.out]; rfl, HB⟩
 | succ m =>
  obtain ⟨i, hi⟩ : ∃ i : Nat, i + (m + 1) = cs.length := ⟨cs.length - (m + 1), by omega⟩
  rw [show cs.length - (m + 1) = i by omega] at hnot
  rw [show (cs.length : Int) - ((m + 1 : Nat) : Int) = (i : Int) by omega]
  have hlt : ((i : Int) < (cs.length : Int)) = True := eq_true (by omega)
  have h0 : (0 ≤ (i : Int)) = True := eq_true (by omega)
  have hw : wrap64 ((i : Int) + 1) = (i : Int) + 1 := by unfold wrap64; omega
  obtain ⟨ad, rfl, hx0, hx1⟩ := flat_at hq (0, 0, 0, 0) (i : Int) (by omega) (by omega)
  have c0 := hx0 _ rfl
  have c1 := hx1 1 _ (by omega) rfl
  have c2 := hx1 2 _ (by omega) rfl
  have c3 := hx1 3 _ (by omega) rfl
  have c4 := hx1 4 _ (by omega) rfl
  have c5 := hx1 5 _ (by omega) rfl
  have c6 := hx1 6 _ (by omega) rfl
  have T := TX i
  rw [Int.toNat_natCast] at c0 c1 c2 c3 c4 c5 c6
  have HN := Aside0.mk hnot
  have HI := Aside0.mk (show i < cs.length by omega)
  clear hx0 hx1 hq TX hnot hk0
  obtain ⟨e, he⟩ : ∃ e, cs.getD i (0, 0, 0, 0) = e := ⟨_, rfl⟩
  have HE := Aside0.mk he
  rw [he] at c0 c1 c2 c3 c4 c5 c6 T
  clear he
  generalize e.1 = k2 at *
  generalize itx e.2.1.num = t1 at *
  generalize itx (e.2.1.den : Int) = t2 at *
  generalize itx e.2.2.1.num = t3 at *
  generalize itx (e.2.2.1.den : Int) = t4 at *
  generalize itx e.2.2.2.num = t5 at *
  generalize itx (e.2.2.2.den : Int) = t6 at *
  by_cases hde : d = e
  ·simp only [if_pos hde] at T
   have HD := Aside0.mk hde
   clear hde
   go_wp2
   refine wp_region_U (fun _ => false) (fun W => Below wr.drew.heap.size wr.drew W) (by kernel_rfl) (closed_below _) (Below.refl _ _) ?_
   apply wpU_tk 0 (some 11)
   ·intro W hW
    have e0 := (K0.drew.below hW).cell 0; have e1 := (K0.drew.below hW).cell 1; have e2 := (K0.drew.below hW).cell 2; have e3 := (K0.drew.below hW).cell 3; have e4 := (K0.drew.below hW).cell 4; have e5 := (K0.drew.below hW).cell 5; have e6 := (K0.drew.below hW).cell 6; have j0 := pw_cell_below (below_step (below_drew HB) hW) c0; have j1 := pw_cell_below (below_step (below_drew HB) hW) c1; have j2 := pw_cell_below (below_step (below_drew HB) hW) c2; have j3 := pw_cell_below (below_step (below_drew HB) hW) c3; have j4 := pw_cell_below (below_step (below_drew HB) hW) c4; have j5 := pw_cell_below (below_step (below_drew HB) hW) c5; have j6 := pw_cell_below (below_step (below_drew HB) hW) c6
    go_simp
    try rfl
   apply wpU_tk 1 (some 12)
   ·intro W hW
    go_simp
    try rfl
   apply wpU_tk 2 (some 13)
   ·intro W hW
    go_simp
    try rfl
   apply wpU_tk 3 (some 14)
   ·intro W hW
    have e0 := (K0.drew.below hW).cell 0; have e1 := (K0.drew.below hW).cell 1; have e2 := (K0.drew.below hW).cell 2; have e3 := (K0.drew.below hW).cell 3; have e4 := (K0.drew.below hW).cell 4; have e5 := (K0.drew.below hW).cell 5; have e6 := (K0.drew.below hW).cell 6; have j0 := pw_cell_below (below_step (below_drew HB) hW) c0; have j1 := pw_cell_below (below_step (below_drew HB) hW) c1; have j2 := pw_cell_below (below_step (below_drew HB) hW) c2; have j3 := pw_cell_below (below_step (below_drew HB) hW) c3; have j4 := pw_cell_below (below_step (below_drew HB) hW) c4; have j5 := pw_cell_below (below_step (below_drew HB) hW) c5; have j6 := pw_cell_below (below_step (below_drew HB) hW) c6
    go_simp
    try rfl
   apply wpU_tk 4 (some 15)
   ·intro W hW
    have e0 := (K0.drew.below hW).cell 0; have e1 := (K0.drew.below hW).cell 1; have e2 := (K0.drew.below hW).cell 2; have e3 := (K0.drew.below hW).cell 3; have e4 := (K0.drew.below hW).cell 4; have e5 := (K0.drew.below hW).cell 5; have e6 := (K0.drew.below hW).cell 6; have j0 := pw_cell_below (below_step (below_drew HB) hW) c0; have j1 := pw_cell_below (below_step (below_drew HB) hW) c1; have j2 := pw_cell_below (below_step (below_drew HB) hW) c2; have j3 := pw_cell_below (below_step (below_drew HB) hW) c3; have j4 := pw_cell_below (below_step (below_drew HB) hW) c4; have j5 := pw_cell_below (below_step (below_drew HB) hW) c5; have j6 := pw_cell_below (below_step (below_drew HB) hW) c6
    go_simp
    try rfl
   apply wpU_tk 5 (some 16)
   ·intro W hW
    go_simp
    try rfl
   refine wpU_done (by kernel_rfl) (fun W1 hW1 => ?_) _
   go_simp
   go_wp2
   go_ret
   have hx := idxOf_take cs d i HN.out HI.out (HE.out.trans HD.out.symm)
   exact ⟨by unfold idxI; rw [if_pos hx.1, hx.2]; rfl, below_step (below_drew HB) hW1⟩
  ·simp only [if_neg hde] at T
   have HD := Aside0.mk hde
   clear hde
   go_wp2
   refine wp_region_U (fun _ => false) (fun W => Below wr.drew.heap.size wr.drew W) (by kernel_rfl) (closed_below _) (Below.refl _ _) ?_
   apply wpU_tk 0 (some 11)
   ·intro W hW
    have e0 := (K0.drew.below hW).cell 0; have e1 := (K0.drew.below hW).cell 1; have e2 := (K0.drew.below hW).cell 2; have e3 := (K0.drew.below hW).cell 3; have e4 := (K0.drew.below hW).cell 4; have e5 := (K0.drew.below hW).cell 5; have e6 := (K0.drew.below hW).cell 6; have j0 := pw_cell_below (below_step (below_drew HB) hW) c0; have j1 := pw_cell_below (below_step (below_drew HB) hW) c1; have j2 := pw_cell_below (below_step (below_drew HB) hW) c2; have j3 := pw_cell_below (below_step (below_drew HB) hW) c3; have j4 := pw_cell_below (below_step (below_drew HB) hW) c4; have j5 := pw_cell_below (below_step (below_drew HB) hW) c5; have j6 := pw_cell_below (below_step (below_drew HB) hW) c6
    go_simp
    try rfl
   apply wpU_tk 1 (some 12)
   ·intro W hW
    go_simp
    try rfl
   apply wpU_tk 2 (some 13)
   ·intro W hW
    go_simp
    try rfl
   apply wpU_tk 3 (some 14)
   ·intro W hW
    have e0 := (K0.drew.below hW).cell 0; have e1 := (K0.drew.below hW).cell 1; have e2 := (K0.drew.below hW).cell 2; have e3 := (K0.drew.below hW).cell 3; have e4 := (K0.drew.below hW).cell 4; have e5 := (K0.drew.below hW).cell 5; have e6 := (K0.drew.below hW).cell 6; have j0 := pw_cell_below (below_step (below_drew HB) hW) c0; have j1 := pw_cell_below (below_step (below_drew HB) hW) c1; have j2 := pw_cell_below (below_step (below_drew HB) hW) c2; have j3 := pw_cell_below (below_step (below_drew HB) hW) c3; have j4 := pw_cell_below (below_step (below_drew HB) hW) c4; have j5 := pw_cell_below (below_step (below_drew HB) hW) c5; have j6 := pw_cell_below (below_step (below_drew HB) hW) c6
    go_simp
    try rfl
   apply wpU_tk 4 (some 15)
   ·intro W hW
    have e0 := (K0.drew.below hW).cell 0; have e1 := (K0.drew.below hW).cell 1; have e2 := (K0.drew.below hW).cell 2; have e3 := (K0.drew.below hW).cell 3; have e4 := (K0.drew.below hW).cell 4; have e5 := (K0.drew.below hW).cell 5; have e6 := (K0.drew.below hW).cell 6; have j0 := pw_cell_below (below_step (below_drew HB) hW) c0; have j1 := pw_cell_below (below_step (below_drew HB) hW) c1; have j2 := pw_cell_below (below_step (below_drew HB) hW) c2; have j3 := pw_cell_below (below_step (below_drew HB) hW) c3; have j4 := pw_cell_below (below_step (below_drew HB) hW) c4; have j5 := pw_cell_below (below_step (below_drew HB) hW) c5; have j6 := pw_cell_below (below_step (below_drew HB) hW) c6
    go_simp
    try rfl
   apply wpU_tk 5 (some 16)
   ·intro W hW
    go_simp
    try rfl
   refine wpU_done (by kernel_rfl) (fun W1 hW1 => ?_) _
   go_simp
   go_wp2
   go_roundg m
   case measure => omega
   case rel => exact ⟨by congr 1; omega, by omega, by rw [show cs.length - m = i + 1 by omega]; exact not_take_succ cs d i HN.out HI.out (by rw [HE.out]; exact fun h => HD.out h.symm), K0.drew.below hW1, below_step (below_drew HB) hW1⟩
set_option maxRecDepth 100000 in
theorem rg_contains (A : Option Addr) (c : Nat) (cs : List Cv) (d : Cv) (w : World) (hq : kCv.C w A cs.length cs) (hc : cs.length ≤ c) :
  Calls Tryz.prog 100 #[.slice A cs.length c, cv d] w fun e w' => e = .returned (.bool (decide (d ∈ cs))) ∧ Below w.heap.size w w' := by
 have V := fun W hq => rg_index A c cs d W hq hc
 have hz : decide (idxI cs d ≥ 0) = decide (d ∈ cs) := by
  unfold idxI
  split <;> rename_i h
  ·rw [decide_eq_true h]; exact decide_eq_true (by omega)
  ·rw [decide_eq_false h]; exact decide_eq_false (by omega)
 generalize decide (d ∈ cs) = bb at *
 generalize idxI cs d = z at *
 unfold cv at *
 generalize d.1 = k at *
 generalize itx d.2.1.num = s1 at *
 generalize itx (d.2.1.den : Int) = s2 at *
 generalize itx d.2.2.1.num = s3 at *
 generalize itx (d.2.2.1.den : Int) = s4 at *
 generalize itx d.2.2.2.num = s5 at *
 generalize itx (d.2.2.2.den : Int) = s6 at *
 have hB0 : Below w.heap.size w (w.alloc (.cells #[.int .i64 k, .string s1, .string s2, .string s3, .string s4, .string s5, .string s6] 91)) := below_alloc (Below.refl _ _) _
 go_enter Tryz.func100, Tryz.ntmps100
 go_wp2_with (go_at_call 161; refine (V _ (Kd.C_below hq hB0)).mono ?_; clear V; rintro e w2 ⟨rfl, hb2⟩)
 go_ret
 exact ⟨rfl, below_step hB0 hb2⟩
end Go.Proofs.YtociicfjhgfgpaaGreatDoor

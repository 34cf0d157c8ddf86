/- rational: Compare: the walk. -/
import Derived.Test.YtociicfjhgfgpaaGreatDoorM20
import Derived.ScopeJumps
import Derived.WalkMore
set_option linter.unusedVariables false
set_option linter.unusedSimpArgs false
namespace Go.Proofs.YtociicfjhgfgpaaGreatDoor
open Go.RowKit Go.Shelf Go.Lib Go.Proofs.YtociicfjhgfgpaaGreatDoorW.PrintWords
open Classical in
noncomputable def rdNat (v : Option Value) : Nat := if h : ∃ d : Nat, v = some (.string (itx (d : Int))) then h.choose else 0
theorem rdNat_itx (d : Nat) : rdNat (some (.string (itx (d : Int)))) = d := by
 have h : ∃ e : Nat, some (Value.string (itx (d : Int))) = some (.string (itx (e : Int))) := ⟨d, rfl⟩
 unfold rdNat
 rw [dif_pos h]
 have h1 := h.choose_spec
 injection h1 with h1
 injection h1 with h1
 have := itx_inj h1
 omega
theorem rdNat_int {z : Int} (h : 0 ≤ z) : rdNat (some (.string (itx z))) = z.toNat := by
 obtain ⟨k, rfl⟩ := Int.eq_ofNat_of_zero_le h
 exact rdNat_itx k
structure CmpN (n d m c s R : Int) : Prop where
 hd : 0 < d
 hc : 0 < c
 fn : fit n
 fd : fit d
 fm : fit m
 fc : fit c
 hs : s = 1 ∨ s = -1
 hR : s * cmpI (n * c) (m * d) = R
def cmpJ18 (w : World) (R : Int) (a : Act) (W : World) : Prop :=
 ∃ (n m d c s : Int) (v0 v1 v4 u6 u7 u8 u9 u10 u11 u12 u13 u14 u15 u16 u17 u18 u19 u20 u21 u22 u23 u24 u25 u26 u27 u28 u29 u30 u31 u32 u33 u34 u35 u36 u37 u38 u39 u40 u41 u42 u43 u44 u45 u46 u47 u48 u49 u50 u51 u52 u53 u54 u55 u56 u57 u58 u59 u60 u61 u62 u63 u64 u65 u66 u67 u68 u69 u70 u71 u72 u73 : Value), a = { tmps := #[v0, v1, .pointer (some ⟨w.heap.size, 0, none⟩), .pointer (some ⟨w.heap.size + 1, 0, none⟩), v4, .int .i64 s, u6, u7, u8, u9, u10, u11, u12, u13, u14, u15, u16, u17, u18, u19, u20, u21, u22, u23, u24, u25, u26, u27, u28, u29, u30, u31, u32, u33, u34, u35, u36, u37, u38, u39, u40, u41, u42, u43, u44, u45, u46, u47, u48, u49, u50, u51, u52, u53, u54, u55, u56, u57, u58, u59, u60, u61, u62, u63, u64, u65, u66, u67, u68, u69, u70, u71, u72, u73], defers := [] } ∧ Below w.heap.size w W ∧ Blk W w.heap.size #[.string (itx n), .string (itx d)] 25 ∧ Blk W (w.heap.size + 1) #[.string (itx m), .string (itx c)] 25 ∧ CmpN n d m c s R
noncomputable def cmpM (w : World) (_ : Act) (W : World) : Nat := rdNat (W.cell? ⟨w.heap.size, 1, none⟩)
theorem zero_text (z : Int) : ((itx z).toList == [48]) = decide (z = 0) := by
 have := itx_eq z 0
 rwa [show (itx 0).toList = [48] by rw [ByteArray.toList_eq]; rfl] at this
theorem cmp_cases (a b : Int) : cmpI a b = 1 ∨ cmpI a b = -1 ∨ cmpI a b = 0 := by
 unfold cmpI
 split
 ·exact .inr (.inl rfl)
 ·split
  ·exact .inr (.inr rfl)
  ·exact .inl rfl
theorem cmp_self (a : Int) : cmpI a a = 0 := by
 unfold cmpI
 rw [if_neg (by omega), if_pos rfl]
theorem cmp_zero {a b : Int} (h : cmpI a b = 0) : a = b := by
 unfold cmpI at h
 split at h
 ·omega
 ·split at h
  ·assumption
  ·omega
set_option maxHeartbeats 8000000 in
set_option maxRecDepth 100000 in
theorem rat_Compare (p q : Rat) (w : World) (hp : Pow w) (h1 : Sq p) (h2 : Sq q) :
  Calls Tryz.prog 18 #[rv p, rv q] w fun e w' => e = .returned (.int .i64 (cmpR p q)) ∧ Below w.heap.size w w' := by
 have V1 := fun W hp => rat_Valid p W hp h1
 have V2 := fun W hp => rat_Valid q W hp h2
 have HN0 : CmpN p.num p.den q.num q.den 1 (cmpR p q) := ⟨by have := p.den_pos; omega, by have := q.den_pos; omega, h1.n, h1.d, h2.n, h2.d, .inl rfl, by rw [← cmpR_cross, Int.one_mul]⟩
 obtain ⟨R, hR⟩ : ∃ R, cmpR p q = R := ⟨_, rfl⟩
 rw [hR] at HN0 ⊢
 unfold rv at *
 clear hR h1 h2
 go_enter Tryz.func18, Tryz.ntmps18
 go_wp2
 refine (fun (key : ∀ (a' : Act) (W : World), cmpJ18 w R a' W → Code.wp Tryz.prog _ (Exit.jump 0 (fun a2 W2 => cmpJ18 w R a2 W2 ∧ cmpM w a2 W2 < cmpM w a' W) _) a' W) => wp_scope_jumps (rest := Code.skip.seq _) 0 (cmpJ18 w R) (cmpM w) rfl ?first (fun a' W h => wp_seq (wp_skip (key a' W h)))) ?pass
 case pass =>
  rintro a' W ⟨n, m, d, c, s, v0, v1, v4, u6, u7, u8, u9, u10, u11, u12, u13, u14, u15, u16, u17, u18, u19, u20, u21, u22, u23, u24, u25, u26, u27, u28, u29, u30, u31, u32, u33, u34, u35, u36, u37, u38, u39, u40, u41, u42, u43, u44, u45, u46, u47, u48, u49, u50, u51, u52, u53, u54, u55, u56, u57, u58, u59, u60, u61, u62, u63, u64, u65, u66, u67, u68, u69, u70, u71, u72, u73, rfl, HB, hk0, hk1, HN⟩
  obtain ⟨hd, hc, fn, fd, fm, fc, hs, hRR⟩ := HN
  have D1 := fun W hp => int_Div n d W hp fn fd (by omega)
  have D2 := fun W hp => int_Div m c W hp fm fc (by omega)
  have CM := fun W => int_Compare (n / d) (m / c) W (fit_div d fn) (fit_div c fm)
  have z1 := zero_text (n % d)
  have z2 := zero_text (m % c)
  have c0 := hk0.cell 0
  have c01 := hk0.cell 1
  have HRR := Aside0.mk hRR
  have HS := Aside0.mk hs
  have HD := Aside0.mk (And.intro hd hc)
  have HF := Aside0.mk (And.intro fd fc)
  have hw0 : wrap64 s = s := by unfold wrap64; omega
  have hw1 : wrap64 (-s) = -s := by unfold wrap64; omega
  clear hRR hs hd hc fn fd fm fc
  rcases cmp_cases (n / d) (m / c) with ht | ht | ht
  ·rw [ht] at CM
   have HT := Aside0.mk ht
   clear ht
   go_wp2_with (first | (go_at_call 45; refine (D1 _ (hp.below HB)).mono ?_; clear D1; rintro e w2 ⟨rfl, hb2⟩; have hB2 := below_step HB hb2; have g0 := (hk1.below hb2).cell 0; have g01 := (hk1.below hb2).cell 1) | (go_at_call 45; refine (D2 _ (hp.below hB2)).mono ?_; clear D2; rintro e w3 ⟨rfl, hb3⟩; have hB3 := below_step hB2 hb3) | (go_at_call 46; refine (CM _).mono ?_; clear CM; rintro e w4 ⟨rfl, hb4⟩; have hB4 := below_step hB3 hb4))
   simp only [Exit.jump]
   go_ret
   refine ⟨Eq.trans (b := Ending.returned (.int .i64 s)) rfl (congrArg (fun z => Ending.returned (Value.int .i64 z)) ?_), hB4⟩
   have e1 := cf_ne HD.out.1 HD.out.2 (fun e => by have := HT.out; rw [e, cmp_self] at this; omega)
   rw [HT.out] at e1
   rw [← HRR.out, ← e1, Int.mul_one]
  ·rw [ht] at CM
   have HT := Aside0.mk ht
   clear ht
   go_wp2_with (first | (go_at_call 45; refine (D1 _ (hp.below HB)).mono ?_; clear D1; rintro e w2 ⟨rfl, hb2⟩; have hB2 := below_step HB hb2; have g0 := (hk1.below hb2).cell 0; have g01 := (hk1.below hb2).cell 1) | (go_at_call 45; refine (D2 _ (hp.below hB2)).mono ?_; clear D2; rintro e w3 ⟨rfl, hb3⟩; have hB3 := below_step hB2 hb3) | (go_at_call 46; refine (CM _).mono ?_; clear CM; rintro e w4 ⟨rfl, hb4⟩; have hB4 := below_step hB3 hb4))
   simp only [Exit.jump]
   go_ret
   refine ⟨Eq.trans (b := Ending.returned (.int .i64 (-s))) rfl (congrArg (fun z => Ending.returned (Value.int .i64 z)) ?_), hB4⟩
   have e1 := cf_ne HD.out.1 HD.out.2 (fun e => by have := HT.out; rw [e, cmp_self] at this; omega)
   rw [HT.out] at e1
   rw [← HRR.out, ← e1]
   omega
  ·have HT := Aside0.mk (cmp_zero ht)
   rw [ht] at CM
   clear ht
   by_cases hr : n % d = 0
   ·have HR := Aside0.mk hr
    rw [decide_eq_true hr] at z1
    clear hr
    by_cases hs' : m % c = 0
    ·have HS2 := Aside0.mk hs'
     rw [decide_eq_true hs'] at z2
     clear hs'
     go_wp2_with (first | (go_at_call 45; refine (D1 _ (hp.below HB)).mono ?_; clear D1; rintro e w2 ⟨rfl, hb2⟩; have hB2 := below_step HB hb2; have g0 := (hk1.below hb2).cell 0; have g01 := (hk1.below hb2).cell 1) | (go_at_call 45; refine (D2 _ (hp.below hB2)).mono ?_; clear D2; rintro e w3 ⟨rfl, hb3⟩; have hB3 := below_step hB2 hb3) | (go_at_call 46; refine (CM _).mono ?_; clear CM; rintro e w4 ⟨rfl, hb4⟩; have hB4 := below_step hB3 hb4))
     simp only [Exit.jump]
     go_ret
     refine ⟨Eq.trans (b := Ending.returned (.int .i64 0)) rfl (congrArg (fun z => Ending.returned (Value.int .i64 z)) ?_), hB4⟩
     rw [← HRR.out, cf_zz HT.out HR.out HS2.out, Int.mul_zero]
    ·have HS2 := Aside0.mk hs'
     rw [decide_eq_false hs'] at z2
     clear hs'
     go_wp2_with (first | (go_at_call 45; refine (D1 _ (hp.below HB)).mono ?_; clear D1; rintro e w2 ⟨rfl, hb2⟩; have hB2 := below_step HB hb2; have g0 := (hk1.below hb2).cell 0; have g01 := (hk1.below hb2).cell 1) | (go_at_call 45; refine (D2 _ (hp.below hB2)).mono ?_; clear D2; rintro e w3 ⟨rfl, hb3⟩; have hB3 := below_step hB2 hb3) | (go_at_call 46; refine (CM _).mono ?_; clear CM; rintro e w4 ⟨rfl, hb4⟩; have hB4 := below_step hB3 hb4))
     simp only [Exit.jump]
     go_ret
     refine ⟨Eq.trans (b := Ending.returned (.int .i64 (-s))) rfl (congrArg (fun z => Ending.returned (Value.int .i64 z)) ?_), hB4⟩
     rw [← HRR.out, cf_z1 HD.out.1 HD.out.2 HT.out HR.out HS2.out]
     omega
   ·have HR := Aside0.mk hr
    rw [decide_eq_false hr] at z1
    clear hr
    by_cases hs' : m % c = 0
    ·have HS2 := Aside0.mk hs'
     rw [decide_eq_true hs'] at z2
     clear hs'
     go_wp2_with (first | (go_at_call 45; refine (D1 _ (hp.below HB)).mono ?_; clear D1; rintro e w2 ⟨rfl, hb2⟩; have hB2 := below_step HB hb2; have g0 := (hk1.below hb2).cell 0; have g01 := (hk1.below hb2).cell 1) | (go_at_call 45; refine (D2 _ (hp.below hB2)).mono ?_; clear D2; rintro e w3 ⟨rfl, hb3⟩; have hB3 := below_step hB2 hb3) | (go_at_call 46; refine (CM _).mono ?_; clear CM; rintro e w4 ⟨rfl, hb4⟩; have hB4 := below_step hB3 hb4))
     simp only [Exit.jump]
     go_ret
     refine ⟨Eq.trans (b := Ending.returned (.int .i64 s)) rfl (congrArg (fun z => Ending.returned (Value.int .i64 z)) ?_), hB4⟩
     rw [← HRR.out, cf_1z HD.out.1 HD.out.2 HT.out HR.out HS2.out]
     omega
    ·have HS2 := Aside0.mk hs'
     rw [decide_eq_false hs'] at z2
     clear hs'
     go_wp2_with (first | (go_at_call 45; refine (D1 _ (hp.below HB)).mono ?_; clear D1; rintro e w2 ⟨rfl, hb2⟩; have hB2 := below_step HB hb2; have g0 := (hk1.below hb2).cell 0; have g01 := (hk1.below hb2).cell 1) | (go_at_call 45; refine (D2 _ (hp.below hB2)).mono ?_; clear D2; rintro e w3 ⟨rfl, hb3⟩; have hB3 := below_step hB2 hb3) | (go_at_call 46; refine (CM _).mono ?_; clear CM; rintro e w4 ⟨rfl, hb4⟩; have hB4 := below_step hB3 hb4))
     have k0 := ((hk0.below hb2).below hb3).below hb4
     have k1 := ((hk1.below hb2).below hb3).below hb4
     obtain ⟨q0, q1, q2, q3⟩ := k0.two
     obtain ⟨r0, r1, r2, r3⟩ := k1.two
     go_region
     go_wp2
     go_step3
     rw [hw1]
     have hBB := below_set (g := w.heap.size + 1) (j := 1) (v := .string (itx (m % c))) (below_set (g := w.heap.size + 1) (j := 0) (v := .string (itx c)) (below_set (g := w.heap.size) (j := 1) (v := .string (itx (n % d))) (below_set (g := w.heap.size) (j := 0) (v := .string (itx d)) hB4 (Nat.le_refl _)) (Nat.le_refl _)) (Nat.le_succ _)) (Nat.le_succ _)
     have kk0 := (((k0.set 0 (.string (itx d))).set 1 (.string (itx (n % d)))).far (p := ⟨w.heap.size + 1, 0, none⟩) (by simp) (.string (itx c))).far (p := ⟨w.heap.size + 1, 1, none⟩) (by simp) (.string (itx (m % c)))
     have kk1 := (((k1.far (p := ⟨w.heap.size, 0, none⟩) (by simp) (.string (itx d))).far (p := ⟨w.heap.size, 1, none⟩) (by simp) (.string (itx (n % d)))).set 0 (.string (itx c))).set 1 (.string (itx (m % c)))
     have hd0 := HD.out.1
     have hr0 : 0 < n % d := by have := Int.emod_nonneg n (show d ≠ 0 by omega); have := HR.out; omega
     have hs0 : 0 < m % c := by have := Int.emod_nonneg m (show c ≠ 0 by have := HD.out.2; omega); have := HS2.out; omega
     refine ⟨rfl, ⟨d, c, n % d, m % c, -s, _, _, _, _, _, _, _, _, _, _, _, _, _, _, _, _, _, _, _, _, _, _, _, _, _, _, _, _, _, _, _, _, _, _, _, _, _, _, _, _, _, _, _, _, _, _, _, _, _, _, _, _, _, _, _, _, _, _, _, _, _, _, _, _, _, _, _, _, _, _, _, rfl, below_drew hBB, kk0.drew, kk1.drew, ⟨hr0, hs0, HF.out.1, fit_mod (by omega) HF.out.1, HF.out.2, fit_mod (by have := HD.out.2; omega) HF.out.2, by rcases HS.out with e | e <;> omega, ?_⟩⟩, ?_⟩
     ·rw [← HRR.out, cf_step HT.out, Int.neg_mul_comm]
     ·unfold cmpM
      rw [c01, show World.cell? _ ⟨w.heap.size, 1, none⟩ = _ from kk0.drew.cell 1]
      show rdNat (some (.string (itx (n % d)))) < rdNat (some (.string (itx d)))
      rw [rdNat_int (by omega), rdNat_int (by omega)]
      have := Int.emod_lt_of_pos n hd0
      omega
 case first =>
  have hB0 : Below w.heap.size w ((w.alloc (.cells #[.string (itx p.num), .string (itx (p.den : Int))] 25)).alloc (.cells #[.string (itx q.num), .string (itx (q.den : Int))] 25)) := below_alloc (below_alloc (Below.refl _ _) _) _
  have hk0 := (Blk.new w #[.string (itx p.num), .string (itx (p.den : Int))] 25).alloc (.cells #[.string (itx q.num), .string (itx (q.den : Int))] 25)
  have hk1 := Blk.new (w.alloc (.cells #[.string (itx p.num), .string (itx (p.den : Int))] 25)) #[.string (itx q.num), .string (itx (q.den : Int))] 25
  rw [World.size_alloc] at hk1
  go_wp2_with (first | (go_at_call 44; refine (V1 _ (hp.below hB0)).mono ?_; clear V1; rintro e w2 ⟨rfl, hb2⟩; have hB2 := below_step hB0 hb2; have g0 := (hk1.below hb2).cell 0; have g01 := (hk1.below hb2).cell 1) | (go_at_call 44; refine (V2 _ (hp.below hB2)).mono ?_; clear V2; rintro e w3 ⟨rfl, hb3⟩; have hB3 := below_step hB2 hb3))
  go_step3
  rename_i K hK
  refine hK _ _ (Code.wp_mono (fun e a2 W2 h => ?_) (key _ _ ⟨p.num, q.num, p.den, q.den, 1, _, _, _, _, _, _, _, _, _, _, _, _, _, _, _, _, _, _, _, _, _, _, _, _, _, _, _, _, _, _, _, _, _, _, _, _, _, _, _, _, _, _, _, _, _, _, _, _, _, _, _, _, _, _, _, _, _, _, _, _, _, _, _, _, _, _, _, _, _, _, _, rfl, hB3, (hk0.below hb2).below hb3, (hk1.below hb2).below hb3, HN0⟩))
  cases e with
  | goto l => exact ⟨h.1, h.2.1⟩
  | _ => exact h
end Go.Proofs.YtociicfjhgfgpaaGreatDoor

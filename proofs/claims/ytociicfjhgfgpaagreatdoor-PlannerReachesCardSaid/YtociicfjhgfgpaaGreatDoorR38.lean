/- planner: passes, any number of rows: the walk. -/
import Derived.Test.YtociicfjhgfgpaaGreatDoorR36
import Derived.Test.YtociicfjhgfgpaaGreatDoorR37
import Derived.Test.YtociicfjhgfgpaaGreatDoorR34
set_option linter.unusedVariables false
set_option linter.unusedSimpArgs false
set_option maxHeartbeats 64000000
set_option maxRecDepth 100000
namespace Go.Proofs.YtociicfjhgfgpaaGreatDoor
open Go.RowKit Go.Shelf Go.Lib Go.Proofs.YtociicfjhgfgpaaGreatDoorW.PrintWords
theorem pl_pass_bad (w0 : World) (bo bz : Nat) (vs : Value) (L : List Ps) (x0 y0 x1 y1 z : Rat) (pa : Addr) (w : World) (hP : Plan w0 pa) (hh0 : 0 < w0.heap.size) (hk : Blk w bo #[vs] 34) (hz : Blk w bz #[.string (itx z.num), .string (itx (z.den : Int))] 25) (HO : OwnK kPs 61 w w0.heap.size vs L) (HB : Below w0.heap.size w0 w) (hb : w0.heap.size ≤ bo) (hl : L.length = 12) :
  Calls Tryz.prog 76 #[rv x0, rv y0, rv x1, rv y1, .pointer (some ⟨bo, 0, none⟩), .pointer (some ⟨bz, 0, none⟩)] w fun e w' => e = .panicked (chain pa false) ∧ Below w0.heap.size w0 w' := by
 obtain ⟨A, cp, e0⟩ := Kd.R_slice HO
 subst e0
 have EC : Aside0 (encP (x0, y0, x1, y1, z) = [.string (itx x0.num), .string (itx (x0.den : Int)), .string (itx y0.num), .string (itx (y0.den : Int)), .string (itx x1.num), .string (itx (x1.den : Int)), .string (itx y1.num), .string (itx (y1.den : Int)), .string (itx z.num), .string (itx (z.den : Int))]) := Aside0.mk rfl
 have CO := fun W hP => pl_check_bad pa W hP
 have HLE := Aside0.mk (app160 (n := L.length) (by omega))
 have g1 : ((L.length : Int) + 1 ≤ 12) = False := eq_false (by omega)
 have g2 : decide ((L.length : Int) + 1 ≤ 12) = false := decide_eq_false (by omega)
 obtain ⟨PP, hPP⟩ : ∃ p : Ps, (x0, y0, x1, y1, z) = p := ⟨_, rfl⟩
 rw [hPP] at EC
 clear hPP hl
 unfold rv at *
 generalize itx x0.num = a1 at *
 generalize itx (x0.den : Int) = a2 at *
 generalize itx y0.num = b1 at *
 generalize itx (y0.den : Int) = b2 at *
 generalize itx x1.num = c1 at *
 generalize itx (x1.den : Int) = c2 at *
 generalize itx y1.num = d1 at *
 generalize itx (y1.den : Int) = d2 at *
 generalize itx z.num = z1 at *
 generalize itx (z.den : Int) = z2 at *
 obtain ⟨hB0, k0, k1, k2, k3⟩ := news4 w #[.string a1, .string a2] 25 #[.string b1, .string b2] 25 #[.string c1, .string c2] 25 #[.string d1, .string d2] 25
 have KO := hk.below hB0
 have KZ := hz.below hB0
 have HO4 := HO.below hB0
 have HB4 := bZs HB hB0
 have o0 := KO.cell 0
 obtain ⟨z0, z1', _, _⟩ := KZ.two
 go_enter Tryz.func76, Tryz.ntmps76
 go_wp2_with (first | (at_builtin; refine Kd.R_append kPs (w0 := w0) (W := ((((w.alloc (.cells #[.string a1, .string a2] 25)).alloc (.cells #[.string b1, .string b2] 25)).alloc (.cells #[.string c1, .string c2] 25)).alloc (.cells #[.string d1, .string d2] 25))) w0.heap.size rfl (.tmp 10) (.tmp 17) 34 61 (.agg #[.string ⟨#[]⟩, .string ⟨#[]⟩, .string ⟨#[]⟩, .string ⟨#[]⟩, .string ⟨#[]⟩, .string ⟨#[]⟩, .string ⟨#[]⟩, .string ⟨#[]⟩, .string ⟨#[]⟩, .string ⟨#[]⟩]) 160 rfl Tryz.underlying34 info61 rfl (by decide) (by decide) (.slice A L.length cp) L PP [.string a1, .string a2, .string b1, .string b2, .string c1, .string c2, .string d1, .string d2, .string z1, .string z2] (fun _ => True) (fun _ => False) rfl (by rw [World.size_alloc, World.size_alloc, World.size_alloc, World.size_alloc]; rfl) EC.out.symm (fun _ hk => hk.elim) (fun _ _ => trivial) HO4 HB4 (bZz HB4) HLE.out ?_; intro v1 w5 HO5 HB5 HG5 _; obtain ⟨A5, c5, e5⟩ := Kd.R_slice HO5; rw [List.length_append, List.length_singleton] at e5; subst e5; have M0 := KO.kept HG5 (OwnK.not_blk HO4 KO (by decide)); obtain ⟨y0, y1⟩ := M0.one; have N0 := M0.set 0 (.slice A5 (L.length + 1) c5); have n0 := N0.cell 0; have hP5 := hP.below (bZe (j := 0) (v := .slice A5 (L.length + 1) c5) HB5 hb) hh0) | (go_at_call 67; refine (CO _ hP5).mono ?_; rintro e w6 ⟨rfl, rfl⟩))
 exact ⟨rfl, rfl, bZe HB5 hb⟩
def rowAt (b s : Rat) : Nat → Rat
 | 0 => b
 | k + 1 => rowAt b s k + s
theorem pl_passes_w (p : Pkt) (z : Rat) (pa : Addr) (w : World) (hp : Pow w) (hP : Plan w pa) (hS : SqPk p) (hz : Sq z) (hr8 : Sq (p.r + p.r)) (hY : ∀ k, k ≤ 11 → Sq (rowAt p.b (p.r + p.r) k)) (hw : p.a < p.c) :
  Calls Tryz.prog 29 #[pkv p, rv z] w fun e w' => (∃ k A c, k ≤ 9 ∧ (∀ j, j < k → rowAt p.b (p.r + p.r) j < p.d) ∧ ¬ rowAt p.b (p.r + p.r) k < p.d ∧ e = .returned (.slice A (k + 3) c) ∧ OwnK kPs 61 w' w.heap.size (.slice A (k + 3) c) (((p.a, p.b, p.a, p.d, z) :: (p.c, p.b, p.c, p.d, z) :: (List.range k).map (fun j => (p.a, rowAt p.b (p.r + p.r) j, p.c, rowAt p.b (p.r + p.r) j, z))) ++ [(p.a, p.d, p.c, p.d, z)]) ∧ Below w.heap.size w w')
   ∨ ((∀ j, j < 10 → rowAt p.b (p.r + p.r) j < p.d) ∧ e = .panicked (chain pa false) ∧ Below w.heap.size w w') := by
 have hh0 : 0 < w.heap.size := World.block_lt_of_cell? _ _ hP
 have VZ := fun W hp => rat_Valid z W hp hz
 have WI := fun W hp => pl_isWide p.a p.b p.c p.d W hp hS.a hS.c
 have AD1 := fun W hp => rat_Add p.r p.r W hp hS.r hS.r
 have AD2 := fun k W hp hk => rat_Add (rowAt p.b (p.r + p.r) k) (p.r + p.r) W hp (hY k hk) hr8
 have hsucc : ∀ k, rowAt p.b (p.r + p.r) k + (p.r + p.r) = rowAt p.b (p.r + p.r) (k + 1) := fun _ => rfl
 simp only [hsucc] at AD2
 have LS := fun k W hp hk => pl_isLess (rowAt p.b (p.r + p.r) k) p.d W hp (hY k hk) hS.d
 rw [decide_eq_true hw] at WI
 have CO := fun W => pl_check_ok W
 have P1 := fun (W : World) (vs : Value) (L : List Ps) hk hz HO HB hl => pl_pass w (w.heap.size + 2) (w.heap.size + 1) vs L p.a p.b p.a p.d z W hk hz HO HB (Nat.le_add_right _ _) hl
 have P2 := fun (W : World) (vs : Value) (L : List Ps) hk hz HO HB hl => pl_pass w (w.heap.size + 2) (w.heap.size + 1) vs L p.c p.b p.c p.d z W hk hz HO HB (Nat.le_add_right _ _) hl
 have P3 := fun k (W : World) (vs : Value) (L : List Ps) hk hz HO HB hl => pl_pass w (w.heap.size + 2) (w.heap.size + 1) vs L p.a (rowAt p.b (p.r + p.r) k) p.c (rowAt p.b (p.r + p.r) k) z W hk hz HO HB (Nat.le_add_right _ _) hl
 have P3b := fun k (W : World) (vs : Value) (L : List Ps) hk hz HO HB hl => pl_pass_bad w (w.heap.size + 2) (w.heap.size + 1) vs L p.a (rowAt p.b (p.r + p.r) k) p.c (rowAt p.b (p.r + p.r) k) z pa W hP hh0 hk hz HO HB (Nat.le_add_right _ _) hl
 have P4 := fun (W : World) (vs : Value) (L : List Ps) hk hz HO HB hl => pl_pass w (w.heap.size + 2) (w.heap.size + 1) vs L p.a p.d p.c p.d z W hk hz HO HB (Nat.le_add_right _ _) hl
 have P4b := fun (W : World) (vs : Value) (L : List Ps) hk hz HO HB hl => pl_pass_bad w (w.heap.size + 2) (w.heap.size + 1) vs L p.a p.d p.c p.d z pa W hP hh0 hk hz HO HB (Nat.le_add_right _ _) hl
 obtain ⟨Q1, hQ1⟩ : ∃ t : Ps, (p.a, p.b, p.a, p.d, z) = t := ⟨_, rfl⟩
 obtain ⟨Q2, hQ2⟩ : ∃ t : Ps, (p.c, p.b, p.c, p.d, z) = t := ⟨_, rfl⟩
 obtain ⟨Q3, hQ3⟩ : ∃ t : Nat → Ps, ∀ k, (p.a, rowAt p.b (p.r + p.r) k, p.c, rowAt p.b (p.r + p.r) k, z) = t k := ⟨_, fun _ => rfl⟩
 obtain ⟨Q4, hQ4⟩ : ∃ t : Ps, (p.a, p.d, p.c, p.d, z) = t := ⟨_, rfl⟩
 obtain ⟨LT, hLT⟩ : ∃ t : Nat → Bool, ∀ k, decide (rowAt p.b (p.r + p.r) k < p.d) = t k := ⟨_, fun _ => rfl⟩
 have hlt : ∀ k, rowAt p.b (p.r + p.r) k < p.d ↔ LT k = true := fun k => by rw [← hLT k, decide_eq_true_eq]
 simp only [hQ1, hQ2, hQ3, hQ4] at P1 P2 P3 P4 ⊢
 simp only [hlt, Bool.not_eq_true]
 simp only [hLT] at LS
 have y0n : itx (rowAt p.b (p.r + p.r) 0).num = itx p.b.num := rfl
 have y0d : itx ((rowAt p.b (p.r + p.r) 0).den : Int) = itx (p.b.den : Int) := rfl
 clear hQ1 hQ2 hQ3 hQ4 hLT hlt hS hz hr8 hw hY hsucc
 obtain ⟨LL, hLL⟩ : ∃ t : Nat → List Ps, ∀ k, Q1 :: Q2 :: (List.range k).map Q3 = t k := ⟨_, fun _ => rfl⟩
 have LL0 : LL 0 = [Q1, Q2] := (hLL 0).symm
 have LLs : ∀ k, LL k ++ [Q3 k] = LL (k + 1) := fun k => by rw [← hLL, ← hLL, List.range_succ, List.map_append]; rfl
 have LLn : ∀ k, (LL k).length = k + 2 := fun k => by rw [← hLL]; simp
 simp only [hLL]
 clear hLL
 unfold rv rcv pkv at *
 obtain ⟨yn, hyn⟩ : ∃ t : Nat → ByteArray, ∀ k, itx (rowAt p.b (p.r + p.r) k).num = t k := ⟨_, fun _ => rfl⟩
 obtain ⟨yd, hyd⟩ : ∃ t : Nat → ByteArray, ∀ k, itx ((rowAt p.b (p.r + p.r) k).den : Int) = t k := ⟨_, fun _ => rfl⟩
 simp only [hyn, hyd] at AD2 LS P3 P3b y0n y0d
 clear hyn hyd
 generalize p.r + p.r = ss at *
 generalize itx ss.num = s1 at *
 generalize itx (ss.den : Int) = s2 at *
 generalize itx p.a.num = e1 at *
 generalize itx (p.a.den : Int) = e2 at *
 generalize itx p.b.num = f1 at *
 generalize itx (p.b.den : Int) = f2 at *
 generalize itx p.c.num = t1 at *
 generalize itx (p.c.den : Int) = t2 at *
 generalize itx p.d.num = h1 at *
 generalize itx (p.d.den : Int) = h2 at *
 generalize itx p.x0.num = a1 at *
 generalize itx (p.x0.den : Int) = a2 at *
 generalize itx p.y0.num = b1 at *
 generalize itx (p.y0.den : Int) = b2 at *
 generalize itx p.x1.num = c1 at *
 generalize itx (p.x1.den : Int) = c2 at *
 generalize itx p.y1.num = d1 at *
 generalize itx (p.y1.den : Int) = d2 at *
 generalize itx p.r.num = r1 at *
 generalize itx (p.r.den : Int) = r2 at *
 generalize itx z.num = z1 at *
 generalize itx (z.den : Int) = z2 at *
 clear p z ss
 have Y0 := Aside0.mk (And.intro y0n y0d)
 clear y0n y0d
 have MU1 := fun W => pl_must s1 s2 W
 have MU2 := fun k W => pl_must (yn k) (yd k) W
 obtain ⟨hB0, k0, k1, k2⟩ := news3 w #[.string e1, .string e2, .string f1, .string f2, .string t1, .string t2, .string h1, .string h2, .string a1, .string a2, .string b1, .string b2, .string c1, .string c2, .string d1, .string d2, .string r1, .string r2] 71 #[.string z1, .string z2] 25 #[.slice none 0 0] 34
 have hmf := mk_fn
 have o2 := k2.cell 0
 go_enter Tryz.func29, Tryz.ntmps29
 go_wp2_with (first | (go_at_call 44; refine (VZ _ (hp.below hB0)).mono ?_; rintro e wq ⟨rfl, hb2⟩) | (go_at_call 67; refine (CO _).mono ?_; rintro e w2 ⟨rfl, rfl⟩))
 have hB1 := bZd (bZs hB0 hb2)
 have S0 := (k0.below hb2).drew
 have S1 := (k1.below hb2).drew
 have S2 := (k2.below hb2).drew
 clear hB0 hb2 k0 k1 k2 VZ o2
 refine wp_region_V (fun _ => false) (fun W => Below w2.drew.heap.size w2.drew W) (fun W => Below w2.drew.heap.size w2.drew W) (by kernel_rfl) (cZb _) (Below.refl _ _) ?_
 apply wpV_e 0 16
 apply wpV_e 1 17
 apply wpV_e 2 18
 refine wpV_f 3 19 (h1 := by intro W hW; have e0 := (S0.below hW).cell 0; have e1 := (S0.below hW).cell 1; go_simp; try rfl) (h3 := ?_)
 apply wpV_e 4 20
 apply wpV_e 5 21
 apply wpV_e 6 22
 refine wpV_f 7 23 (h1 := by intro W hW; have e2 := (S0.below hW).cell 2; have e3 := (S0.below hW).cell 3; go_simp; try rfl) (h3 := ?_)
 apply wpV_e 8 24
 apply wpV_e 9 25
 apply wpV_e 10 26
 refine wpV_f 11 27 (h1 := by intro W hW; have e4 := (S0.below hW).cell 4; have e5 := (S0.below hW).cell 5; go_simp; try rfl) (h3 := ?_)
 apply wpV_e 12 28
 apply wpV_e 13 29
 apply wpV_e 14 30
 refine wpV_f 15 31 (h1 := by intro W hW; have e6 := (S0.below hW).cell 6; have e7 := (S0.below hW).cell 7; go_simp; try rfl) (h3 := ?_)
 refine wpV_n4 (i1 := 16) (i2 := 17) (i3 := 18) (i4 := 19) (f1 := (fun n => .pointer (some ⟨n, 0, none⟩))) (f2 := (fun n => .pointer (some ⟨n, 0, none⟩))) (f3 := (fun n => .pointer (some ⟨n, 0, none⟩))) (f4 := (fun n => .pointer (some ⟨n, 0, none⟩))) (c1 := #[.string ⟨#[]⟩, .string ⟨#[]⟩]) (c2 := #[.string ⟨#[]⟩, .string ⟨#[]⟩]) (c3 := #[.string ⟨#[]⟩, .string ⟨#[]⟩]) (c4 := #[.string ⟨#[]⟩, .string ⟨#[]⟩]) (t1 := 25) (t2 := 25) (t3 := 25) (t4 := 25) (by kernel_rfl) rfl rfl rfl rfl (by kernel_rfl) (by kernel_rfl) (by kernel_rfl) (by kernel_rfl) (by kernel_rfl) (by kernel_rfl) (by kernel_rfl) (by kernel_rfl) (by kernel_rfl) (by kernel_rfl) (by kernel_rfl) (by kernel_rfl) (by kernel_rfl) (by kernel_rfl) (by kernel_rfl) (by kernel_rfl) (by kernel_rfl) (by kernel_rfl) (by kernel_rfl) (by kernel_rfl) (by kernel_rfl) (by kernel_rfl) (by kernel_rfl) (by kernel_rfl) (by kernel_rfl) (by kernel_rfl) (by kernel_rfl) (by kernel_rfl) (by kernel_rfl) (by kernel_rfl) (by kernel_rfl) (by kernel_rfl) (by kernel_rfl) (by kernel_rfl) (by kernel_rfl) (by kernel_rfl) (by kernel_rfl) (by kernel_rfl) (by kernel_rfl) (by kernel_rfl) (by kernel_rfl) (by kernel_rfl) (by decide) (by kernel_rfl) (by decide) (by kernel_rfl) (by decide) (by kernel_rfl) (by decide) (by kernel_rfl) (by decide) (by kernel_rfl) (by decide) (by kernel_rfl) (by decide) (by kernel_rfl) (by decide) (by kernel_rfl) (by decide) (by kernel_rfl) (by decide) (by kernel_rfl) (by decide) (by kernel_rfl) (by decide) ⟨by rfl, fun W => by go_simp; try rfl⟩ ⟨by rfl, fun W => by go_simp; try rfl⟩ ⟨by rfl, fun W => by go_simp; try rfl⟩ ⟨by rfl, fun W => by go_simp; try rfl⟩ ?_
 intro g0 g1 g2 g3 hg0 hg1 hg2 hg3 n01 n02 n03 n12 n13 n23
 have G0 : w2.drew.heap.size ≤ g0 := by
  obtain ⟨Wa, h, e⟩ := hg0
  rw [e]
  exact bZz h
 have G1 : w2.drew.heap.size ≤ g1 := by
  obtain ⟨Wa, h, e⟩ := hg1
  rw [e]
  exact bZz h
 have G2 : w2.drew.heap.size ≤ g2 := by
  obtain ⟨Wa, h, e⟩ := hg2
  rw [e]
  exact bZz h
 have G3 : w2.drew.heap.size ≤ g3 := by
  obtain ⟨Wa, h, e⟩ := hg3
  rw [e]
  exact bZz h
 have LT2 : w.heap.size + 2 < w2.drew.heap.size := S2.lt
 have m0 : w.heap.size + 2 ≠ g0 := by omega
 have m1 : w.heap.size + 2 ≠ g1 := by omega
 have m2 : w.heap.size + 2 ≠ g2 := by omega
 have m3 : w.heap.size + 2 ≠ g3 := by omega
 clear hg0 hg1 hg2 hg3 LT2
 refine wpV_store (fun W => ((((Below w2.drew.heap.size w2.drew W ∧ Blk W g0 #[.string e1, .string e2] 25) ∧ Blk W g1 #[.string ⟨#[]⟩, .string ⟨#[]⟩] 25) ∧ Blk W g2 #[.string ⟨#[]⟩, .string ⟨#[]⟩] 25) ∧ Blk W g3 #[.string ⟨#[]⟩, .string ⟨#[]⟩] 25)) (i := 20) (d := none) rfl rfl (by kernel_rfl) (closed_and (closed_and (closed_and (closed_and (cZb _) (closed_blk _ _ _)) (closed_blk _ _ _)) (closed_blk _ _ _)) (closed_blk _ _ _)) (fun _ h => h.1.1.1.1) (by rfl) (fun W hW => ⟨W.setRow g0 #[.string e1, .string e2], run_store_row2 25 (.tmp 6) (.tmp 19) rfl g0 #[.string e1, .string e2] rfl rfl 25 #[.string ⟨#[]⟩, .string ⟨#[]⟩] hW.1.1.1.2 (by kernel_rfl) rfl (by simp [Value.oneCell']), ⟨⟨⟨⟨below_row hW.1.1.1.1 G0 #[.string e1, .string e2], hW.1.1.1.2.row #[.string e1, .string e2]⟩, hW.1.1.2.farR (Ne.symm n01) #[.string e1, .string e2]⟩, hW.1.2.farR (Ne.symm n02) #[.string e1, .string e2]⟩, hW.2.farR (Ne.symm n03) #[.string e1, .string e2]⟩⟩) ?_
 refine wpV_store (fun W => ((((Below w2.drew.heap.size w2.drew W ∧ Blk W g0 #[.string e1, .string e2] 25) ∧ Blk W g1 #[.string f1, .string f2] 25) ∧ Blk W g2 #[.string ⟨#[]⟩, .string ⟨#[]⟩] 25) ∧ Blk W g3 #[.string ⟨#[]⟩, .string ⟨#[]⟩] 25)) (i := 21) (d := none) rfl rfl (by kernel_rfl) (closed_and (closed_and (closed_and (closed_and (cZb _) (closed_blk _ _ _)) (closed_blk _ _ _)) (closed_blk _ _ _)) (closed_blk _ _ _)) (fun _ h => h.1.1.1.1) (by rfl) (fun W hW => ⟨W.setRow g1 #[.string f1, .string f2], run_store_row2 25 (.tmp 7) (.tmp 23) rfl g1 #[.string f1, .string f2] rfl rfl 25 #[.string ⟨#[]⟩, .string ⟨#[]⟩] hW.1.1.2 (by kernel_rfl) rfl (by simp [Value.oneCell']), ⟨⟨⟨⟨below_row hW.1.1.1.1 G1 #[.string f1, .string f2], hW.1.1.1.2.farR n01 #[.string f1, .string f2]⟩, hW.1.1.2.row #[.string f1, .string f2]⟩, hW.1.2.farR (Ne.symm n12) #[.string f1, .string f2]⟩, hW.2.farR (Ne.symm n13) #[.string f1, .string f2]⟩⟩) ?_
 refine wpV_store (fun W => ((((Below w2.drew.heap.size w2.drew W ∧ Blk W g0 #[.string e1, .string e2] 25) ∧ Blk W g1 #[.string f1, .string f2] 25) ∧ Blk W g2 #[.string t1, .string t2] 25) ∧ Blk W g3 #[.string ⟨#[]⟩, .string ⟨#[]⟩] 25)) (i := 22) (d := none) rfl rfl (by kernel_rfl) (closed_and (closed_and (closed_and (closed_and (cZb _) (closed_blk _ _ _)) (closed_blk _ _ _)) (closed_blk _ _ _)) (closed_blk _ _ _)) (fun _ h => h.1.1.1.1) (by rfl) (fun W hW => ⟨W.setRow g2 #[.string t1, .string t2], run_store_row2 25 (.tmp 8) (.tmp 27) rfl g2 #[.string t1, .string t2] rfl rfl 25 #[.string ⟨#[]⟩, .string ⟨#[]⟩] hW.1.2 (by kernel_rfl) rfl (by simp [Value.oneCell']), ⟨⟨⟨⟨below_row hW.1.1.1.1 G2 #[.string t1, .string t2], hW.1.1.1.2.farR n02 #[.string t1, .string t2]⟩, hW.1.1.2.farR n12 #[.string t1, .string t2]⟩, hW.1.2.row #[.string t1, .string t2]⟩, hW.2.farR (Ne.symm n23) #[.string t1, .string t2]⟩⟩) ?_
 refine wpV_store (fun W => ((((Below w2.drew.heap.size w2.drew W ∧ Blk W g0 #[.string e1, .string e2] 25) ∧ Blk W g1 #[.string f1, .string f2] 25) ∧ Blk W g2 #[.string t1, .string t2] 25) ∧ Blk W g3 #[.string h1, .string h2] 25)) (i := 23) (d := none) rfl rfl (by kernel_rfl) (closed_and (closed_and (closed_and (closed_and (cZb _) (closed_blk _ _ _)) (closed_blk _ _ _)) (closed_blk _ _ _)) (closed_blk _ _ _)) (fun _ h => h.1.1.1.1) (by rfl) (fun W hW => ⟨W.setRow g3 #[.string h1, .string h2], run_store_row2 25 (.tmp 9) (.tmp 31) rfl g3 #[.string h1, .string h2] rfl rfl 25 #[.string ⟨#[]⟩, .string ⟨#[]⟩] hW.2 (by kernel_rfl) rfl (by simp [Value.oneCell']), ⟨⟨⟨⟨below_row hW.1.1.1.1 G3 #[.string h1, .string h2], hW.1.1.1.2.farR n03 #[.string h1, .string h2]⟩, hW.1.1.2.farR n13 #[.string h1, .string h2]⟩, hW.1.2.farR n23 #[.string h1, .string h2]⟩, hW.2.row #[.string h1, .string h2]⟩⟩) ?_
 refine wpV_done (by kernel_rfl) (fun w4 hW4 => ?_) _
 go_simp
 obtain ⟨⟨⟨⟨hbW, KA⟩, KB⟩, KC⟩, KD⟩ := hW4
 have K0 := S0.below hbW
 have KZ := S1.below hbW
 have KO := S2.below hbW
 have HB := bZs hB1 hbW
 have HO : OwnK kPs 61 w4 w.heap.size (.slice none 0 0) [] := OwnK.nil _ _ _ _
 clear hbW S0 S1 S2 hB1 G0 G1 G2 G3
 have pc0 := K0.c0
 have pc1 := K0.c1
 have pc2 := K0.c2
 have pc3 := K0.c3
 have pc4 := K0.c4
 have pc5 := K0.c5
 have pc6 := K0.c6
 have pc7 := K0.c7
 have pc16 := K0.c16
 have pc17 := K0.c17
 have KAc0 := KA.c0
 have KAc1 := KA.c1
 have KBc0 := KB.c0
 have KBc1 := KB.c1
 have KCc0 := KC.c0
 have KCc1 := KC.c1
 have KDc0 := KD.c0
 have KDc1 := KD.c1
 have TK1 : True := trivial
 have TK2 : True := trivial
 have TK3 : True := trivial
 have TK4 : True := trivial
 have TK5 : True := trivial
 go_wp2_with ((first | (go_at_call 76; clear TK1; refine (P1 _ _ [] KO KZ HO HB (by simp)).mono ?_; rintro e v1 ⟨vs, rfl, KO2, HO2, HB2, ST⟩) | (go_at_call 74; clear TK2; refine (WI _ (hp.below HB)).mono ?_; rintro e _ ⟨rfl, hb⟩) | (go_at_call 76; clear TK3; refine (P2 _ _ [Q1] KO KZ HO HB (by simp)).mono ?_; rintro e v3 ⟨vs, rfl, KO2, HO2, HB2, ST⟩) | (go_at_call 19; clear TK4; refine (AD1 _ (hp.below HB)).mono ?_; rintro e _ ⟨rfl, hb⟩) | (go_at_call 70; clear TK5; refine (MU1 _).mono ?_; rintro e v5 ⟨rfl, hb⟩; replace KB := KB.below hb; have wk0 := (KB.alloc (.cells #[.string s1, .string s2] 25)).c0; have wk1 := (KB.alloc (.cells #[.string s1, .string s2] 25)).c1)); (try replace K0 := ST.blk K0 (by omega) (OwnK.not_blk HO K0 (by decide))); (try replace KZ := ST.blk KZ (by omega) (OwnK.not_blk HO KZ (by decide))); (try replace KA := ST.blk KA (Ne.symm m0) (OwnK.not_blk HO KA (by decide))); (try replace KB := ST.blk KB (Ne.symm m1) (OwnK.not_blk HO KB (by decide))); (try replace KC := ST.blk KC (Ne.symm m2) (OwnK.not_blk HO KC (by decide))); (try replace KD := ST.blk KD (Ne.symm m3) (OwnK.not_blk HO KD (by decide))); (try replace KO := KO2); (try replace HO := HO2); (try replace HB := HB2); (try clear KO2 HO2 HB2); (try replace K0 := K0.below hb); (try replace KZ := KZ.below hb); (try replace KO := KO.below hb); (try replace KA := KA.below hb); (try replace KB := KB.below hb); (try replace KC := KC.below hb); (try replace KD := KD.below hb); (try replace HO := OwnK.below HO hb); (try replace HB := bZs HB hb); replace pc0 := K0.c0; replace pc1 := K0.c1; replace pc2 := K0.c2; replace pc3 := K0.c3; replace pc4 := K0.c4; replace pc5 := K0.c5; replace pc6 := K0.c6; replace pc7 := K0.c7; replace pc16 := K0.c16; replace pc17 := K0.c17; replace KAc0 := KA.c0; replace KAc1 := KA.c1; replace KBc0 := KB.c0; replace KBc1 := KB.c1; replace KCc0 := KC.c0; replace KCc1 := KC.c1; replace KDc0 := KD.c0; replace KDc1 := KD.c1; (try clear hb))
 have LTo := KO.lt
 have mKS : w.heap.size + 2 ≠ v5.heap.size := Nat.ne_of_lt LTo
 have mKY : w.heap.size + 2 ≠ v5.heap.size + 1 := Nat.ne_of_lt (Nat.lt_succ_of_lt LTo)
 clear LTo wk0 wk1
 have hbX : Below v5.heap.size v5 ((v5.alloc (.cells #[.string s1, .string s2] 25)).alloc (.cells #[.string f1, .string f2] 25)) := bZa (bZa (Below.refl _ _) _) _
 have KS := (Blk.new v5 #[.string s1, .string s2] 25).alloc (.cells #[.string f1, .string f2] 25)
 have KY := Blk.new2 v5 #[.string s1, .string s2] #[.string f1, .string f2] 25 25
 replace K0 := K0.below hbX; replace KZ := KZ.below hbX; replace KO := KO.below hbX; replace KA := KA.below hbX; replace KB := KB.below hbX; replace KC := KC.below hbX; replace KD := KD.below hbX; replace HO := OwnK.below HO hbX; replace HB := bZs HB hbX
 clear hbX pc0 pc1 pc2 pc3 pc4 pc5 pc6 pc7 pc16 pc17 KAc0 KAc1 KBc0 KBc1 KCc0 KCc1 KDc0 KDc1
 obtain ⟨gs, hgs⟩ : ∃ g, v5.heap.size = g := ⟨_, rfl⟩
 rw [hgs] at mKS mKY KS KY ⊢
 have HO0 := HO
 rw [show [Q1] ++ [Q2] = LL 0 from LL0.symm] at HO0
 go_loopg [11] 11 (fun m v11 w' => ∃ (k gy : Nat) (vs : Value), v11 = .pointer (some ⟨gy, 0, none⟩) ∧ Aside0 (k + m = 11 ∧ k ≤ 10 ∧ ∀ j, j < k → LT j = true) ∧ w.heap.size + 2 ≠ gy ∧ Blk w' gy #[.string (yn k), .string (yd k)] 25 ∧ Blk w' w.heap.size #[.string e1, .string e2, .string f1, .string f2, .string t1, .string t2, .string h1, .string h2, .string a1, .string a2, .string b1, .string b2, .string c1, .string c2, .string d1, .string d2, .string r1, .string r2] 71 ∧ Blk w' (w.heap.size + 1) #[.string z1, .string z2] 25 ∧ Blk w' (w.heap.size + 2) #[vs] 34 ∧ OwnK kPs 61 w' w.heap.size vs (LL k) ∧ Blk w' g0 #[.string e1, .string e2] 25 ∧ Blk w' g1 #[.string f1, .string f2] 25 ∧ Blk w' g2 #[.string t1, .string t2] 25 ∧ Blk w' g3 #[.string h1, .string h2] 25 ∧ Blk w' gs #[.string s1, .string s2] 25 ∧ Below w.heap.size w w')
 case atStart => exact ⟨0, gs + 1, _, rfl, Aside0.mk ⟨rfl, by decide, fun j hj => absurd hj (Nat.not_lt_zero j)⟩, mKY, by rw [Y0.out.1, Y0.out.2]; exact KY, K0, KZ, KO, HO0, KA, KB, KC, KD, KS, HB⟩
 clear KY HO0 K0 KZ KO HO KA KB KC KD KS HB mKY Y0 P1 P2 AD1 MU1 WI
 obtain ⟨k, gy, vs, rfl, hk, mKY, KY, K0, KZ, KO, HO, KA, KB, KC, KD, KS, HB⟩ := hrel
 cases gk with
 | zero => exact absurd hk.out (by omega)
 | succ m =>
  have LSk := fun W hp => LS k W hp (by have := hk.out; omega)
  have AD2k := fun W hp => AD2 k W hp (by have := hk.out; omega)
  have P3k := P3 k
  have P3bk := P3b k
  have MU2k := MU2 (k + 1)
  have hlk := Aside0.mk (LLn k)
  have pc0 := K0.c0
  have pc1 := K0.c1
  have pc2 := K0.c2
  have pc3 := K0.c3
  have pc4 := K0.c4
  have pc5 := K0.c5
  have pc6 := K0.c6
  have pc7 := K0.c7
  have pc16 := K0.c16
  have pc17 := K0.c17
  have KAc0 := KA.c0
  have KAc1 := KA.c1
  have KBc0 := KB.c0
  have KBc1 := KB.c1
  have KCc0 := KC.c0
  have KCc1 := KC.c1
  have KDc0 := KD.c0
  have KDc1 := KD.c1
  have KSc0 := KS.c0
  have KSc1 := KS.c1
  have KYc0 := KY.c0
  have KYc1 := KY.c1
  clear LS AD2 P3 P3b MU2
  cases hl : LT k with
  | false =>
   rw [hl] at LSk
   have HF := Aside0.mk hl
   clear hl P3k P3bk AD2k MU2k
   rcases Nat.lt_or_ge k 10 with h9 | h9
   ·have h9' := Aside0.mk h9
    have hl12 := Aside0.mk (show (LL k).length < 12 by rw [LLn k]; omega)
    clear h9 P4b
    have TK11 : True := trivial
    have TK12 : True := trivial
    go_wp2_with (first | (go_at_call 72; clear TK11; refine (LSk _ (hp.below HB)).mono ?_; rintro e v11 ⟨rfl, hb⟩; replace K0 := K0.below hb; replace KZ := KZ.below hb; replace KO := KO.below hb; replace KA := KA.below hb; replace KB := KB.below hb; replace KC := KC.below hb; replace KD := KD.below hb; replace KS := KS.below hb; replace KY := KY.below hb; replace HO := OwnK.below HO hb; replace HB := bZs HB hb; replace pc0 := K0.c0; replace pc1 := K0.c1; replace pc2 := K0.c2; replace pc3 := K0.c3; replace pc4 := K0.c4; replace pc5 := K0.c5; replace pc6 := K0.c6; replace pc7 := K0.c7; replace pc16 := K0.c16; replace pc17 := K0.c17; replace KAc0 := KA.c0; replace KAc1 := KA.c1; replace KBc0 := KB.c0; replace KBc1 := KB.c1; replace KCc0 := KC.c0; replace KCc1 := KC.c1; replace KDc0 := KD.c0; replace KDc1 := KD.c1; replace KSc0 := KS.c0; replace KSc1 := KS.c1; replace KYc0 := KY.c0; replace KYc1 := KY.c1; clear hb) | (go_at_call 76; clear TK12; refine (P4 _ _ (LL k) KO KZ HO HB hl12.out).mono ?_; rintro e v12 ⟨vs2, rfl, KO2, HO2, HB2, ST⟩; obtain ⟨XA, xc, ex⟩ := Kd.R_slice HO2; rw [List.length_append, List.length_singleton, hlk.out] at ex; subst ex; obtain ⟨o0, o1⟩ := KO2.one))
    have HE := OwnK.set HO2 KO2 (by decide) 0 (.slice XA (k + 2 + 1) xc)
    have c0 := (KO2.set 0 (.slice XA (k + 2 + 1) xc)).c0
    refine bodyPost_ret (v := .slice XA (k + 3) xc) ?_ rfl (.inl ⟨k, _, _, Nat.le_of_lt_succ h9'.out, hk.out.2.2, HF.out, rfl, HE, bZe HB2 (by omega)⟩)
    simp [results, Tryz.results29, go_sem, c0]
   ·have h10 := Aside0.mk (show k = 10 from Nat.le_antisymm hk.out.2.1 h9)
    clear h9 P4
    have TK11 : True := trivial
    go_wp2_with (first | (go_at_call 72; clear TK11; refine (LSk _ (hp.below HB)).mono ?_; rintro e v11 ⟨rfl, hb⟩; replace K0 := K0.below hb; replace KZ := KZ.below hb; replace KO := KO.below hb; replace KA := KA.below hb; replace KB := KB.below hb; replace KC := KC.below hb; replace KD := KD.below hb; replace KS := KS.below hb; replace KY := KY.below hb; replace HO := OwnK.below HO hb; replace HB := bZs HB hb; replace pc0 := K0.c0; replace pc1 := K0.c1; replace pc2 := K0.c2; replace pc3 := K0.c3; replace pc4 := K0.c4; replace pc5 := K0.c5; replace pc6 := K0.c6; replace pc7 := K0.c7; replace pc16 := K0.c16; replace pc17 := K0.c17; replace KAc0 := KA.c0; replace KAc1 := KA.c1; replace KBc0 := KB.c0; replace KBc1 := KB.c1; replace KCc0 := KC.c0; replace KCc1 := KC.c1; replace KDc0 := KD.c0; replace KDc1 := KD.c1; replace KSc0 := KS.c0; replace KSc1 := KS.c1; replace KYc0 := KY.c0; replace KYc1 := KY.c1; clear hb) | (go_at_call 76; refine (P4b _ _ (LL k) KO KZ HO HB (by rw [hlk.out, h10.out])).mono ?_; rintro e w9 ⟨rfl, hb9⟩))
    exact ⟨rfl, .inr ⟨by have := hk.out.2.2; rw [h10.out] at this; exact this, rfl, hb9⟩⟩
  | true =>
   rw [hl] at LSk
   have HT := Aside0.mk hl
   clear hl P4 P4b
   rcases Nat.lt_or_ge k 10 with h9 | h9
   ·have h9' := Aside0.mk h9
    have hl12 := Aside0.mk (show (LL k).length < 12 by rw [LLn k]; omega)
    clear h9 P3bk
    have TK11 : True := trivial
    have TK12 : True := trivial
    have TK13 : True := trivial
    have TK14 : True := trivial
    go_wp2_with ((first | (go_at_call 72; clear TK11; refine (LSk _ (hp.below HB)).mono ?_; rintro e v11 ⟨rfl, hb⟩) | (go_at_call 76; clear TK12; refine (P3k _ _ (LL k) KO KZ HO HB hl12.out).mono ?_; rintro e v12 ⟨vs, rfl, KO2, HO2, HB2, ST⟩; replace K0 := ST.blk K0 (by omega) (OwnK.not_blk HO K0 (by decide)); replace KZ := ST.blk KZ (by omega) (OwnK.not_blk HO KZ (by decide)); replace KA := ST.blk KA (Ne.symm m0) (OwnK.not_blk HO KA (by decide)); replace KB := ST.blk KB (Ne.symm m1) (OwnK.not_blk HO KB (by decide)); replace KC := ST.blk KC (Ne.symm m2) (OwnK.not_blk HO KC (by decide)); replace KD := ST.blk KD (Ne.symm m3) (OwnK.not_blk HO KD (by decide)); replace KS := ST.blk KS (Ne.symm mKS) (OwnK.not_blk HO KS (by decide)); replace KY := ST.blk KY (Ne.symm mKY) (OwnK.not_blk HO KY (by decide)); replace KO := KO2; replace HO := HO2; replace HB := HB2; clear KO2 HO2 HB2; replace pc0 := K0.c0; replace pc1 := K0.c1; replace pc2 := K0.c2; replace pc3 := K0.c3; replace pc4 := K0.c4; replace pc5 := K0.c5; replace pc6 := K0.c6; replace pc7 := K0.c7; replace pc16 := K0.c16; replace pc17 := K0.c17; replace KAc0 := KA.c0; replace KAc1 := KA.c1; replace KBc0 := KB.c0; replace KBc1 := KB.c1; replace KCc0 := KC.c0; replace KCc1 := KC.c1; replace KDc0 := KD.c0; replace KDc1 := KD.c1; replace KSc0 := KS.c0; replace KSc1 := KS.c1; replace KYc0 := KY.c0; replace KYc1 := KY.c1; have yo0 := KY.c0; have yo1 := KY.c1; have d0 := Nat.ne_of_lt K0.lt; have dz := Nat.ne_of_lt KZ.lt; have dO := Nat.ne_of_lt KO.lt; have dKA := Nat.ne_of_lt KA.lt; have dKB := Nat.ne_of_lt KB.lt; have dKC := Nat.ne_of_lt KC.lt; have dKD := Nat.ne_of_lt KD.lt; have dKS := Nat.ne_of_lt KS.lt; have hlw := bZz HB; have hbX : Below v12.heap.size v12 (v12.alloc (.cells #[.string (yn k), .string (yd k)] 25)) := bZa (Below.refl _ _) _; clear KY KYc0 KYc1; replace K0 := K0.below hbX; replace KZ := KZ.below hbX; replace KO := KO.below hbX; replace KA := KA.below hbX; replace KB := KB.below hbX; replace KC := KC.below hbX; replace KD := KD.below hbX; replace KS := KS.below hbX; replace HO := OwnK.below HO hbX; replace HB := bZs HB hbX; clear hbX; have KY := Blk.new v12 #[.string (yn k), .string (yd k)] 25) | (go_at_call 19; clear TK13; refine (AD2k _ (hp.below HB)).mono ?_; rintro e _ ⟨rfl, hb⟩) | (go_at_call 70; clear TK14; refine (MU2k _).mono ?_; rintro e _ ⟨rfl, hb⟩; replace KY := KY.below hb; have fy0 := KY.frozen 0; have fy1 := KY.frozen 1)); (try replace K0 := K0.below hb); (try replace KZ := KZ.below hb); (try replace KO := KO.below hb); (try replace KA := KA.below hb); (try replace KB := KB.below hb); (try replace KC := KC.below hb); (try replace KD := KD.below hb); (try replace KS := KS.below hb); (try replace KY := KY.below hb); (try replace HO := OwnK.below HO hb); (try replace HB := bZs HB hb); replace pc0 := K0.c0; replace pc1 := K0.c1; replace pc2 := K0.c2; replace pc3 := K0.c3; replace pc4 := K0.c4; replace pc5 := K0.c5; replace pc6 := K0.c6; replace pc7 := K0.c7; replace pc16 := K0.c16; replace pc17 := K0.c17; replace KAc0 := KA.c0; replace KAc1 := KA.c1; replace KBc0 := KB.c0; replace KBc1 := KB.c1; replace KCc0 := KC.c0; replace KCc1 := KC.c1; replace KDc0 := KD.c0; replace KDc1 := KD.c1; replace KSc0 := KS.c0; replace KSc1 := KS.c1; replace KYc0 := KY.c0; replace KYc1 := KY.c1; (try clear hb))
    go_roundg m
    case measure => have := hk.out; omega
    case rel =>
     have HOn := (OwnK.set HO KY (by decide) 0 (.string (yn (k + 1)))).set (KY.set 0 _) (by decide) 1 (.string (yd (k + 1)))
     rw [LLs] at HOn
     exact ⟨k + 1, _, _, rfl, Aside0.mk ⟨by have := hk.out; omega, h9'.out, fun j hj => by
      rcases Nat.lt_succ_iff_lt_or_eq.1 hj with h | h
      ·exact hk.out.2.2 j h
      ·rw [h]; exact HT.out⟩, dO, (KY.set 0 _).set 1 _, (K0.far (p := ⟨v12.heap.size, 0, none⟩) d0 (.string (yn (k + 1)))).far (p := ⟨v12.heap.size, 1, none⟩) d0 (.string (yd (k + 1))), (KZ.far (p := ⟨v12.heap.size, 0, none⟩) dz (.string (yn (k + 1)))).far (p := ⟨v12.heap.size, 1, none⟩) dz (.string (yd (k + 1))), (KO.far (p := ⟨v12.heap.size, 0, none⟩) dO (.string (yn (k + 1)))).far (p := ⟨v12.heap.size, 1, none⟩) dO (.string (yd (k + 1))), HOn, (KA.far (p := ⟨v12.heap.size, 0, none⟩) dKA (.string (yn (k + 1)))).far (p := ⟨v12.heap.size, 1, none⟩) dKA (.string (yd (k + 1))), (KB.far (p := ⟨v12.heap.size, 0, none⟩) dKB (.string (yn (k + 1)))).far (p := ⟨v12.heap.size, 1, none⟩) dKB (.string (yd (k + 1))), (KC.far (p := ⟨v12.heap.size, 0, none⟩) dKC (.string (yn (k + 1)))).far (p := ⟨v12.heap.size, 1, none⟩) dKC (.string (yd (k + 1))), (KD.far (p := ⟨v12.heap.size, 0, none⟩) dKD (.string (yn (k + 1)))).far (p := ⟨v12.heap.size, 1, none⟩) dKD (.string (yd (k + 1))), (KS.far (p := ⟨v12.heap.size, 0, none⟩) dKS (.string (yn (k + 1)))).far (p := ⟨v12.heap.size, 1, none⟩) dKS (.string (yd (k + 1))), bZe (j := 1) (v := .string (yd (k + 1))) (bZe (j := 0) (v := .string (yn (k + 1))) HB hlw) hlw⟩
   ·have h10 := Aside0.mk (show k = 10 from Nat.le_antisymm hk.out.2.1 h9)
    clear h9 P3k AD2k MU2k
    have TK11 : True := trivial
    go_wp2_with (first | (go_at_call 72; clear TK11; refine (LSk _ (hp.below HB)).mono ?_; rintro e v11 ⟨rfl, hb⟩; replace K0 := K0.below hb; replace KZ := KZ.below hb; replace KO := KO.below hb; replace KA := KA.below hb; replace KB := KB.below hb; replace KC := KC.below hb; replace KD := KD.below hb; replace KS := KS.below hb; replace KY := KY.below hb; replace HO := OwnK.below HO hb; replace HB := bZs HB hb; replace pc0 := K0.c0; replace pc1 := K0.c1; replace pc2 := K0.c2; replace pc3 := K0.c3; replace pc4 := K0.c4; replace pc5 := K0.c5; replace pc6 := K0.c6; replace pc7 := K0.c7; replace pc16 := K0.c16; replace pc17 := K0.c17; replace KAc0 := KA.c0; replace KAc1 := KA.c1; replace KBc0 := KB.c0; replace KBc1 := KB.c1; replace KCc0 := KC.c0; replace KCc1 := KC.c1; replace KDc0 := KD.c0; replace KDc1 := KD.c1; replace KSc0 := KS.c0; replace KSc1 := KS.c1; replace KYc0 := KY.c0; replace KYc1 := KY.c1; clear hb) | (go_at_call 76; refine (P3bk _ _ (LL k) KO KZ HO HB (by rw [hlk.out, h10.out])).mono ?_; rintro e w9 ⟨rfl, hb9⟩))
    exact ⟨rfl, .inr ⟨by have := hk.out.2.2; rw [h10.out] at this; exact this, rfl, hb9⟩⟩
end Go.Proofs.YtociicfjhgfgpaaGreatDoor

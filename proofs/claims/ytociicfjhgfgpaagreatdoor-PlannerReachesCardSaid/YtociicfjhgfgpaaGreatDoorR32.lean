/- region: Combine: the walk. -/
import Derived.Test.YtociicfjhgfgpaaGreatDoorR31
set_option linter.unusedVariables false
set_option linter.unusedSimpArgs false
set_option maxHeartbeats 32000000
set_option maxRecDepth 100000
namespace Go.Proofs.YtociicfjhgfgpaaGreatDoor
open Go.RowKit Go.Shelf Go.Lib Go.Proofs.YtociicfjhgfgpaaGreatDoorW.PrintWords
theorem pre_take {P Q : List Cv} (h : P <+: Q) : Q.take P.length = P := by
 obtain ⟨t, rfl⟩ := h
 exact List.take_left
theorem pre_le {P Q : List Cv} (h : P <+: Q) : P.length ≤ Q.length := h.length_le
theorem leaf_in {ac bc P : List Cv} {an bn M : List Nd} (ha : okNds ac.length 0 an) (hp : ac <+: P) (hr : relL P bc an.length bn M) (hb : okNds bc.length 0 bn) : ∀ n ∈ an ++ M, n.1 = 1 → 0 ≤ n.2.1 ∧ n.2.1 < P.length := by
 intro n hn h1
 have hl := pre_le hp
 rcases List.mem_append.1 hn with h | h
 ·obtain ⟨j, hj, e⟩ := List.getElem_of_mem h
  rcases okNds_get ha (List.getElem?_eq_getElem hj) with ⟨_, h2, h3, _⟩ | ⟨h2, _⟩
  ·rw [e] at h2 h3
   omega
  ·rw [e] at h2
   omega
 ·obtain ⟨j, hj, e⟩ := List.getElem_of_mem h
  have hj2 : j < bn.length := by rw [← hr.1]; exact hj
  have hrel := hr.2 j _ _ (List.getElem?_eq_getElem hj2) (List.getElem?_eq_getElem hj)
  rw [e] at hrel
  unfold relN at hrel
  split at hrel
  ·obtain ⟨k, rfl, e2⟩ := hrel
   have := (List.getElem?_eq_some_iff.1 e2).1
   simp only
   omega
  ·rename_i h2
   rw [hrel] at h1
   exact absurd h1 h2
theorem rel_leaf {P bc : List Cv} {sh k : Nat} {n : Nd} (h1 : n.1 = 1) (h : P[k]? = some (bc.getD n.2.1.toNat (0, 0, 0, 0))) : relN P bc sh n (n.1, (k : Int), n.2.2.1, n.2.2.2) := by
 unfold relN
 rw [if_pos h1]
 exact ⟨k, rfl, h⟩
theorem rel_not {P bc : List Cv} {sh : Nat} {n : Nd} (h1 : ¬ n.1 = 1) : relN P bc sh n (n.1, n.2.1, n.2.2.1 + sh, n.2.2.2 + sh) := by
 unfold relN
 rw [if_neg h1]
theorem wrap_n {n : Int} {a : Nat} (h : 0 ≤ n) (h2 : n < 200) (h3 : a ≤ 120) : wrap64 (n + (a : Int)) = n + (a : Int) := by unfold wrap64; omega
theorem take_snoc {α : Type} (xs : List α) (i : Nat) (x : α) (h : xs[i]? = some x) : xs.take (i + 1) = xs.take i ++ [x] := by
 obtain ⟨hi, e⟩ := List.getElem?_eq_some_iff.1 h
 rw [List.take_succ_eq_append_getElem hi, e]
theorem wrap_m {a k : Nat} (h : 0 < a) (h2 : a ≤ k) (h3 : k ≤ 1000 := by decide) : wrap64 ((a : Int) - 1) = (a : Int) - 1 := by unfold wrap64; omega
theorem okNds_pos {nc : Nat} : ∀ {ns : List Nd}, okNds nc 0 ns → 0 < ns.length → 0 < nc
 | [], _, h => absurd h (Nat.lt_irrefl 0)
 | n :: ns, h, _ => by
  rcases h.1 with ⟨_, h2, h3, _⟩ | ⟨_, _, h3, h4, _⟩ <;> omega
theorem own_far {α : Type} {n : Nat} {enc : α → List Value} {hl : ∀ x, (enc x).length = n} {h1 : ∀ x, ∀ u ∈ enc x, u.oneCell' = true} {e base : Nat} {w : World} {v : Value} {xs : List α} (h : OwnK (flat n enc hl h1) e w base v xs) {p : Addr} (hne : some p.block ≠ v.ownBlock) (u : Value) : OwnK (flat n enc hl h1) e (w.setCell p u) base v xs := by
 obtain ⟨h0, inner, ho, hr⟩ := h
 exact ⟨h0, inner, own_setCell ho hne u, hr⟩
theorem own_kept {α : Type} {n : Nat} {enc : α → List Value} {hl : ∀ x, (enc x).length = n} {h1 : ∀ x, ∀ u ∈ enc x, u.oneCell' = true} {e base : Nat} {w w1 : World} {v : Value} {xs : List α} (h : OwnK (flat n enc hl h1) e w base v xs) {row : Option Nat} (hg : w.grownBy w1 row) (hne : v.ownBlock = none ∨ v.ownBlock ≠ row) : OwnK (flat n enc hl h1) e w1 base v xs := by
 obtain ⟨h0, inner, ho, hr⟩ := h
 exact ⟨h0, inner, own_other ho hg hne, hr⟩
theorem own_ne2 {α β : Type} {d : Kd α} {d' : Kd β} {e e' base base' : Nat} {w : World} {u v : Value} {xs : List α} {ys : List β} (h : OwnK d e w base u xs) (h' : OwnK d' e' w base' v ys) (hne : e ≠ e') : u.ownBlock = none ∨ u.ownBlock ≠ v.ownBlock := by
 obtain ⟨_, i1, o1, _⟩ := h
 obtain ⟨_, i2, o2, _⟩ := h'
 exact own_type_ne o1 o2 hne
theorem own_blk_ne {α : Type} {d : Kd α} {e base : Nat} {w : World} {u : Value} {xs : List α} (ho : OwnK d e w base u xs) {g : Nat} {cs : Array Value} {t : TypeId} (hk : Blk w g cs t) (ht : e ≠ t) : some g ≠ u.ownBlock := ho.not_blk hk ht
theorem rg_Combine2 (op : Int) (va vb : Value) (a b : Rg) (w : World) (hp : Pow w) (hop : op = 2 ∨ op = 3 ∨ op = 4) (hva : RdR w va a) (hvb : RdR w vb b) (ha : okR a) (hb : okR b) (sa : ∀ c ∈ a.1, SqC c) (sb : ∀ c ∈ b.1, SqC c) (na : a.2 ≠ []) (nb : b.2 ≠ []) (h1 : (cmb2 op a b).1.length ≤ 24) (h2 : (cmb2 op a b).2.length ≤ 120) :
  Calls Tryz.prog 87 #[.int .i64 op, va, vb] w fun e w' => ∃ v, e = .returned (.tuple #[v, .int .i64 0]) ∧ OwnR w' w.heap.size v (cmb2 op a b) ∧ Below w.heap.size w w' := by
 have VA := fun W hp hv => rg_Valid va a W hp hv ha sa
 have VB := fun W hp hv => rg_Valid vb b W hp hv hb sb
 have CP := fun W hv => rg_copied va a W hv ha.nc ha.nn
 have hva' := hva
 have hvb' := hvb
 have REA := fun {P} {M} => re_all (a := a) (b := b) (P := P) (M := M) ha hb
 have SRA := srt_all a b
 have hCM : cmb2 op a b = (cmbC a b, a.2 ++ b.2.map (shN (plc a b) a.2.length) ++ [(op, 0, (a.2.length : Int) - 1, (a.2.length : Int) + b.2.length - 1)]) := rfl
 rw [hCM] at h1 h2 ⊢
 dsimp only at h1 h2
 generalize b.2.map (shN (plc a b) a.2.length) = MB at *
 generalize cmbC a b = CC at *
 clear sa sb hCM
 obtain ⟨ac, an⟩ := a
 obtain ⟨bc, bn⟩ := b
 have hnac := ha.nc
 have hnan := ha.nn
 have hnbc := hb.nc
 have hnbn := hb.nn
 have hao := ha.nd
 have hbo := hb.nd
 have hbd := hb.nodup
 dsimp only at *
 have la : 0 < an.length := List.length_pos_iff.2 na
 have lb : 0 < bn.length := List.length_pos_iff.2 nb
 have HLF := fun (P : List Cv) (M : List Nd) hp hr => leaf_in (ac := ac) (bc := bc) (P := P) (an := an) (bn := bn) (M := M) hao hp hr hbo
 have hac0 := okNds_pos hao la
 clear ha hb na nb hao
 obtain ⟨u, n, rfl, ⟨Ac, cc, rfl, hAc, hAq⟩, ⟨An, cn, rfl, hAn, hAnq⟩⟩ := hva
 obtain ⟨u, n, rfl, ⟨Bc, dc, rfl, hBc, hBq⟩, ⟨Bn, dn, rfl, hBn, hBnq⟩⟩ := hvb
 have ho1 : decide (op < 2) = false := decide_eq_false (by omega)
 have ho2 : decide (op > 4) = false := decide_eq_false (by omega)
 have ho3 : decide (4 < op) = false := decide_eq_false (by omega)
 have he1 : ((an.length : Int) = 0) = False := eq_false (by omega)
 have he2 : ((bn.length : Int) = 0) = False := eq_false (by omega)
 have he3 : decide ((an.length : Int) = 0) = false := decide_eq_false (by omega)
 have he4 : decide ((bn.length : Int) = 0) = false := decide_eq_false (by omega)
 have he5 : ((an.length : Int) == 0) = false := beq_eq_false_iff_ne.2 (by omega)
 have he6 : ((bn.length : Int) == 0) = false := beq_eq_false_iff_ne.2 (by omega)
 have OP := Aside0.mk hop
 clear hop
 obtain ⟨hB0, k0, k1, k2⟩ := news3 w #[.slice Ac ac.length cc, .slice An an.length cn] 42 #[.slice Bc bc.length dc, .slice Bn bn.length dn] 42 #[.slice none 0 0, .slice none 0 0] 42
 go_enter Tryz.func87, Tryz.ntmps87
 go_wp2_with (first | (go_at_call 40; refine (VA _ (hp.below hB0) (hva'.below hB0)).mono ?_; clear VA; rintro e w1 ⟨rfl, hb1⟩; have hB1 := bZs hB0 hb1; have K0 := k0.below hb1; have K1 := k1.below hb1; have K2 := k2.below hb1; obtain ⟨f0, f1, _, _⟩ := K0.two; obtain ⟨f2, f3, _, _⟩ := K1.two) | (go_at_call 40; refine (VB _ (hp.below hB1) (hvb'.below hB1)).mono ?_; clear VB; rintro e w2 ⟨rfl, hb2⟩; have hB2 := bZs hB1 hb2; have L0 := K0.below hb2; have L1 := K1.below hb2; have L2 := K2.below hb2; obtain ⟨g0, g1, _, _⟩ := L0.two; obtain ⟨g2, g3, _, _⟩ := L1.two) | (go_at_call 148; refine (CP _ (hva'.below hB2)).mono ?_; clear CP; rintro e w4 ⟨v4, rfl, ⟨uC, uN, rfl, HC4, HN4⟩, hb4⟩; have HC5 := Kd.R_lower HC4 (bZz hB2); have HN5 := Kd.R_lower HN4 (bZz hB2); have hB4 := bZs hB2 hb4; obtain ⟨A1, c1, e1⟩ := Kd.R_slice HC5; obtain ⟨B1, d1, e2⟩ := Kd.R_slice HN5; subst e1 e2; have M0 := L0.below hb4; have M1 := L1.below hb4; have M2 := L2.below hb4; obtain ⟨y0, y1, _, _⟩ := (M0.alloc (.cells #[.slice A1 ac.length c1, .slice B1 an.length d1] 42)).two; obtain ⟨y2, y3, _, _⟩ := (M1.alloc (.cells #[.slice A1 ac.length c1, .slice B1 an.length d1] 42)).two))
 have Z0 := M0.alloc (.cells #[.slice A1 ac.length c1, .slice B1 an.length d1] 42)
 have Z1 := M1.alloc (.cells #[.slice A1 ac.length c1, .slice B1 an.length d1] 42)
 have Z2 := M2.alloc (.cells #[.slice A1 ac.length c1, .slice B1 an.length d1] 42)
 have Z3 := Blk.new w4 #[.slice A1 ac.length c1, .slice B1 an.length d1] 42
 have HC6 : OwnK kCv 91 (w4.alloc (.cells #[.slice A1 ac.length c1, .slice B1 an.length d1] 42)) w.heap.size (.slice A1 ac.length c1) ac := OwnK.alloc HC5 _
 have HN6 : OwnK kNd 93 (w4.alloc (.cells #[.slice A1 ac.length c1, .slice B1 an.length d1] 42)) w.heap.size (.slice B1 an.length d1) an := OwnK.alloc HN5 _
 have hB6 := bZa hB4 (.cells #[.slice A1 ac.length c1, .slice B1 an.length d1] 42)
 have hrb : w.heap.size + 3 ≤ w4.heap.size := by have := M2.lt; omega
 generalize (w4.alloc (.cells #[.slice A1 ac.length c1, .slice B1 an.length d1] 42)) = w5 at *
 generalize w4.heap.size = rb at *
 clear hB0 hB1 hB2 hB4 hb1 hb2 hb4 K0 K1 K2 L0 L1 L2 M0 M1 M2 HC4 HN4 HC5 HN5 f0 f1 f2 f3 g0 g1 g2 g3 y0 y1 y2 y3 k0 k1 k2
 go_loopg [72] bn.length (fun m v72 w' => ∃ (i : Nat) (P : List Cv) (M : List Nd) (vC vN : Value), v72 = .int .i64 i ∧ i + m = bn.length ∧ Blk w' w.heap.size #[.slice Ac ac.length cc, .slice An an.length cn] 42 ∧ Blk w' (w.heap.size + 1) #[.slice Bc bc.length dc, .slice Bn bn.length dn] 42 ∧ Blk w' (w.heap.size + 2) #[.slice none 0 0, .slice none 0 0] 42 ∧ Blk w' rb #[vC, vN] 42 ∧ OwnK kCv 91 w' w.heap.size vC P ∧ OwnK kNd 93 w' w.heap.size vN (an ++ M) ∧ Below w.heap.size w w' ∧ ac <+: P ∧ relL P bc an.length (bn.take i) M ∧ P.length ≤ 24 + i)
 case atStart => exact ⟨0, ac, [], _, _, rfl, Nat.zero_add _, Z0, Z1, Z2, Z3, HC6, by rw [List.append_nil]; exact HN6, hB6, List.prefix_refl _, by rw [List.take_zero]; exact relL_nil _ _ _, by omega⟩
 clear Z0 Z1 Z2 Z3 HC6 HN6 hB6
 obtain ⟨i, P, M, vC, vN, rfl, hi, Z0, Z1, Z2, Z3, HC, HN, HB, hpre, hrl, hPl⟩ := hrel
 cases gk with
 | zero =>
  have hie : i = bn.length := hi
  subst hie
  have hlt : decide ((bn.length : Int) < (bn.length : Int)) = false := decide_eq_false (Int.lt_irrefl _)
  rw [List.take_length] at hrl
  have hMl : M.length = bn.length := hrl.1
  obtain ⟨NN, hNN⟩ : ∃ l, an ++ M = l := ⟨_, rfl⟩
  have hNl : NN.length = an.length + bn.length := by rw [← hNN, List.length_append, hMl]
  rw [hNN] at HN
  have HNN := Aside0.mk hNN
  clear hNN
  obtain ⟨AN, cN, eN⟩ := Kd.R_slice HN
  subst eN
  have hwb : w.heap.size ≤ rb := by omega
  have n0 : w.heap.size ≠ rb := by omega
  have nn1 : w.heap.size + 1 ≠ rb := by omega
  have nn2 : w.heap.size + 2 ≠ rb := by omega
  have b0 := Z1.cell 0
  have b1 := Z1.cell 1
  go_wp2
  go_loopg [107] bc.length (fun m v107 w' => ∃ (j : Nat) (P : List Cv) (vC : Value), v107 = .int .i64 j ∧ j + m = bc.length ∧ Blk w' w.heap.size #[.slice Ac ac.length cc, .slice An an.length cn] 42 ∧ Blk w' (w.heap.size + 1) #[.slice Bc bc.length dc, .slice Bn bn.length dn] 42 ∧ Blk w' (w.heap.size + 2) #[.slice none 0 0, .slice none 0 0] 42 ∧ Blk w' rb #[vC, .slice AN NN.length cN] 42 ∧ OwnK kCv 91 w' w.heap.size vC P ∧ OwnK kNd 93 w' w.heap.size (.slice AN NN.length cN) NN ∧ Below w.heap.size w w' ∧ ac <+: P ∧ relL P bc an.length bn M ∧ P.length ≤ 144 + j)
  case atStart => exact ⟨0, P, _, rfl, Nat.zero_add _, Z0, Z1, Z2, Z3, HC, HN, HB, hpre, hrl, by omega⟩
  clear Z0 Z1 Z2 Z3 HC HN HB hpre hrl hPl b0 b1 hlt
  obtain ⟨j, P, vC, rfl, hj, Z0, Z1, Z2, Z3, HC, HN, HB, hpre, hrl, hPl⟩ := hrel
  obtain ⟨AC, cC, eC⟩ := Kd.R_slice HC
  subst eC
  cases gk with
  | zero =>
   have hje : j = bc.length := hj
   subst hje
   have hlt2 : decide ((bc.length : Int) < (bc.length : Int)) = false := decide_eq_false (Int.lt_irrefl _)
   have b0 := Z0.cell 0
   have b1 := Z1.cell 0
   have hlv := HLF P M hpre hrl
   rw [HNN.out] at hlv
   have hre := REA hpre hrl
   rw [HNN.out] at hre
   have hple := pre_le hpre
   have OR := rg_order w rb ac.length (.slice AC P.length cC) (.slice AN NN.length cN) (.slice Bc bc.length dc) P bc NN wr Z3 HC HN ⟨_, dc, rfl, hBc, Kd.C_below hBq HB⟩ HB hwb (by omega) (by omega) (by omega) (by omega) hnbc hple hbd hlv
   rw [pre_take hpre, SRA, hre] at OR
   obtain ⟨NB, hNB⟩ : ∃ l, an ++ MB = l := ⟨_, rfl⟩
   rw [hNB] at OR h2
   have HNBE := Aside0.mk hNB
   rw [List.length_append, List.length_singleton] at h2
   have HND := Aside0.mk (show ((op, 0, (an.length : Int) - 1, (an.length : Int) + (bn.length : Int) - 1) : Nd) = (op, 0, (an.length : Int) - 1, (NN.length : Int) - 1) by rw [hNl]; simp)
   have hNBl := Aside0.mk (show NB.length ≤ 1000 by omega)
   have hg1 : decide ((CC.length : Int) > 24) = false := decide_eq_false (by omega)
   have hg2 : decide ((NB.length : Int) + 1 > 120) = false := decide_eq_false (by omega)
   have hg3 : decide (24 < (CC.length : Int)) = false := decide_eq_false (by omega)
   have hg4 : decide (120 < (NB.length : Int) + 1) = false := decide_eq_false (by omega)
   have hw5 : wrap64 ((an.length : Int) - 1) = (an.length : Int) - 1 := wrap_m la hnan
   have hw6 : wrap64 ((NN.length : Int) - 1) = (NN.length : Int) - 1 := wrap_m (by omega) (show NN.length ≤ 240 by omega)
   clear hNB hre hlv hple h1 h2 hj HLF REA SRA hbd hac0 la lb hMl hNl hPl hpre hrl hbo
   go_wp2_with (first | (go_at_call 150; refine OR.mono ?_; clear OR; rintro e w10 ⟨vS, rfl, X3, HS9, HN10, HB10, ST⟩; have HS10 := Kd.R_lower HS9 (bZz HB); obtain ⟨AS, cS, eS⟩ := Kd.R_slice HS10; subst eS; have X2 := ST.blk Z2 nn2 (own_blk_ne HN Z2 (by decide)); have y0 := X3.cell 0; have y1 := X3.cell 1) | (at_builtin; refine appNd (w0 := w) w.heap.size (.tmp 121) (.tmp 130) 40 rfl rfl Tryz.underlying40 (.slice AN NN.length cN) NB (op, 0, (an.length : Int) - 1, (NN.length : Int) - 1) rfl rfl HN10 HB10 (bZz HB10) hNBl.out ?_; intro v1 w11 HN11 HB11 HG11; obtain ⟨A5, c5, e5⟩ := Kd.R_slice HN11; rw [List.length_append, List.length_singleton] at e5; subst e5; have U3 := X3.kept HG11 (HN10.not_blk X3 (by decide)); have U2 := X2.kept HG11 (HN10.not_blk X2 (by decide)); have HC11 : OwnK kCv 91 _ _ _ _ := own_kept HS10 HG11 (own_ne2 HS10 HN10 (by decide)); have y2 := U3.cell 1; have y3 := U3.frozen 1; have T3 := U3.set 1 (.slice A5 (NB.length + 1) c5); have T2 := U2.far (p := ⟨rb, 1, none⟩) nn2 (.slice A5 (NB.length + 1) c5); have HC12 := OwnK.set HC11 U3 (by decide) 1 (.slice A5 (NB.length + 1) c5); have HN12 := OwnK.set HN11 U3 (by decide) 1 (.slice A5 (NB.length + 1) c5); have HB12 := bZe (g := rb) (j := 1) (v := .slice A5 (NB.length + 1) c5) HB11 hwb; have t0 := T3.cell 0; have t1 := T3.cell 1; obtain ⟨r0, r1, q0, q1⟩ := T2.two))
   have HC13 := (HC12.set T2 (by decide) 0 (.slice AS CC.length cS)).set (T2.set 0 _) (by decide) 1 (.slice A5 (NB.length + 1) c5)
   have HN13 := (HN12.set T2 (by decide) 0 (.slice AS CC.length cS)).set (T2.set 0 _) (by decide) 1 (.slice A5 (NB.length + 1) c5)
   refine bodyPost_ret (results_ct rfl _ _ (w.heap.size + 2) 42 #[.slice AS CC.length cS, .slice A5 (NB.length + 1) c5] (0, 0) _ rfl ((T2.set 0 _).set 1 _) Tryz.underlying42 rfl (by kernel_rfl)) rfl ?_
   rw [HNBE.out, HND.out]
   exact ⟨_, rfl, ⟨_, _, rfl, HC13, HN13⟩, bZe (bZe HB12 (by omega)) (by omega)⟩
  | succ m =>
   have hin : j < bc.length := by omega
   have hjm := Aside0.mk (show j + 1 + m = bc.length by omega)
   have HW := Aside0.mk (show wrap64 ((j : Int) + 1) = ((j + 1 : Nat) : Int) from wrap_s hin (by omega))
   have hlt2 : ((j : Int) < (bc.length : Int)) = True := eq_true (Int.ofNat_lt.2 hin)
   have hj0 : (0 ≤ (j : Int)) = True := eq_true (Int.natCast_nonneg j)
   obtain ⟨ad, rfl, hx0, hx1⟩ := flat_at hBq (0, 0, 0, 0) (j : Int) (Int.natCast_nonneg j) (Int.ofNat_lt.2 hin)
   rw [Int.toNat_natCast] at hx0 hx1
   generalize bc.getD j (0, 0, 0, 0) = d at *
   have g0 := pZc HB (hx0 _ rfl)
   have g1 := pZc HB (hx1 1 _ (by decide) rfl)
   have g2 := pZc HB (hx1 2 _ (by decide) rfl)
   have g3 := pZc HB (hx1 3 _ (by decide) rfl)
   have g4 := pZc HB (hx1 4 _ (by decide) rfl)
   have g5 := pZc HB (hx1 5 _ (by decide) rfl)
   have g6 := pZc HB (hx1 6 _ (by decide) rfl)
   have PL := fun W hk HO HB => rg_place w rb (.slice AC P.length cC) (.slice AN NN.length cN) P d W hk HO HB hwb (by omega)
   have HPRE := addC_pre P d
   have HAL := Aside0.mk (Nat.le_trans (addC_len P d) (show P.length + 1 ≤ 144 + (j + 1) by omega))
   clear hx0 hx1 HLF REA SRA h1 h2 hbd hPl hMl hNl hac0 la lb hbo hnan
   unfold cv at PL
   generalize ((addC P d).idxOf d : Nat) = ix at *
   generalize d.1 = kk at *
   generalize itx d.2.1.num = s1 at *
   generalize itx (d.2.1.den : Int) = s2 at *
   generalize itx d.2.2.1.num = s3 at *
   generalize itx (d.2.2.1.den : Int) = s4 at *
   generalize itx d.2.2.2.num = s5 at *
   generalize itx (d.2.2.2.den : Int) = s6 at *
   have hb9 : Below wr.heap.size wr (wr.alloc (.cells #[.int .i64 kk, .string s1, .string s2, .string s3, .string s4, .string s5, .string s6] 91)) := bZa (Below.refl _ _) _
   have hB9 := bZs HB hb9
   have Y0 := Z0.alloc (.cells #[.int .i64 kk, .string s1, .string s2, .string s3, .string s4, .string s5, .string s6] 91)
   have Y1 := Z1.alloc (.cells #[.int .i64 kk, .string s1, .string s2, .string s3, .string s4, .string s5, .string s6] 91)
   have Y2 := Z2.alloc (.cells #[.int .i64 kk, .string s1, .string s2, .string s3, .string s4, .string s5, .string s6] 91)
   have Y3 := Z3.alloc (.cells #[.int .i64 kk, .string s1, .string s2, .string s3, .string s4, .string s5, .string s6] 91)
   have HC9 : OwnK kCv 91 (wr.alloc (.cells #[.int .i64 kk, .string s1, .string s2, .string s3, .string s4, .string s5, .string s6] 91)) w.heap.size (.slice AC P.length cC) P := OwnK.alloc HC _
   have HN9 : OwnK kNd 93 (wr.alloc (.cells #[.int .i64 kk, .string s1, .string s2, .string s3, .string s4, .string s5, .string s6] 91)) w.heap.size (.slice AN NN.length cN) NN := OwnK.alloc HN _
   go_wp2_with (go_at_call 149; refine (PL _ Y3 HC9 hB9).mono ?_; clear PL; rintro e w6 ⟨vC', rfl, U3, HC6, HB6, ST⟩; have U0 := ST.blk Y0 n0 (own_blk_ne HC9 Y0 (by decide)); have U1 := ST.blk Y1 nn1 (own_blk_ne HC9 Y1 (by decide)); have U2 := ST.blk Y2 nn2 (own_blk_ne HC9 Y2 (by decide)); have HN6 := ST.own rfl HN9 Y3 (by decide) (own_ty HC9) (by decide))
   go_roundg m
   case measure => omega
   case rel => exact ⟨j + 1, addC P d, vC', (by first | rfl | exact congrArg _ HW.out), hjm.out, U0, U1, U2, U3, HC6, HN6, HB6, List.IsPrefix.trans hpre HPRE, relL_mono hrl HPRE, HAL.out⟩
 | succ m =>
  have hin : i < bn.length := by omega
  have him := Aside0.mk (show i + 1 + m = bn.length by omega)
  have HW := Aside0.mk (show wrap64 ((i : Int) + 1) = ((i + 1 : Nat) : Int) from wrap_s hin (by omega))
  have hlt : ((i : Int) < (bn.length : Int)) = True := eq_true (Int.ofNat_lt.2 hin)
  have hi0 : (0 ≤ (i : Int)) = True := eq_true (Int.natCast_nonneg i)
  obtain ⟨n, hn⟩ : ∃ n, bn[i]? = some n := ⟨bn[i], List.getElem?_eq_getElem hin⟩
  have hgd : bn.getD (i : Int).toNat (0, 0, 0, 0) = n := by rw [Int.toNat_natCast, List.getD_eq_getElem?_getD, hn]; rfl
  obtain ⟨ad, rfl, hx0, hx1⟩ := flat_at hBnq (0, 0, 0, 0) (i : Int) (Int.natCast_nonneg i) (Int.ofNat_lt.2 hin)
  rw [hgd] at hx0 hx1
  rw [Int.toNat_natCast] at hx0 hx1
  have e0 := pZc HB (hx0 _ rfl)
  have e1 := pZc HB (hx1 1 _ (by decide) rfl)
  have e2 := pZc HB (hx1 2 _ (by decide) rfl)
  have e3 := pZc HB (hx1 3 _ (by decide) rfl)
  clear hx0 hx1 hgd
  have hok := okNds_get hbo hn
  have hts := Aside0.mk (take_snoc bn i n hn)
  have hHNl := own_lt HN
  obtain ⟨AC, cC, eC⟩ := Kd.R_slice HC
  have hMl : M.length = i := by rw [hrl.1, List.length_take]; omega
  have hle := Aside0.mk (show (an ++ M).length ≤ 1000 by rw [List.length_append]; omega)
  obtain ⟨NN, hNN⟩ : ∃ l, an ++ M = l := ⟨_, rfl⟩
  rw [hNN] at HN hle
  have HNN := Aside0.mk hNN
  clear hNN
  obtain ⟨AN, cN, eN⟩ := Kd.R_slice HN
  subst eC eN
  have HSTEP := Aside0.mk (show P.length + 1 ≤ 24 + (i + 1) by omega)
  have hPL : P.length ≤ 500 := by omega
  have hwb : w.heap.size ≤ rb := by omega
  have n0 : w.heap.size ≠ rb := by omega
  have nn1 : w.heap.size + 1 ≠ rb := by omega
  have nn2 : w.heap.size + 2 ≠ rb := by omega
  have LT := Z2.lt
  have m0 : w.heap.size ≠ wr.heap.size := by omega
  have m1 : w.heap.size + 1 ≠ wr.heap.size := by omega
  have m2 : w.heap.size + 2 ≠ wr.heap.size := by omega
  have LT3 := Z3.lt
  have m3 : rb ≠ wr.heap.size := by omega
  have hwl : w.heap.size ≤ wr.heap.size := by omega
  have hnan' := hnan
  clear LT LT3 HLF REA SRA h1 h2 hbd hPl hMl la lb hbo hnan he1 he2 he3 he4 he5 he6 ho1 ho2 ho3 hva' hvb' hAq hAnq hAn hAc hBn
  by_cases hn1 : n.1 = 1
  ·obtain ⟨hk0, hk1⟩ : 0 ≤ n.2.1 ∧ n.2.1 < bc.length := by
    rcases hok with ⟨_, h1, h2, _⟩ | ⟨h1, _⟩
    ·exact ⟨h1, h2⟩
    ·omega
   obtain ⟨k, hkk⟩ : ∃ k : Nat, n.2.1 = (k : Int) := ⟨n.2.1.toNat, (Int.toNat_of_nonneg hk0).symm⟩
   have hlt5 : (k : Int) < (bc.length : Int) := by omega
   obtain ⟨ad2, rfl, hy0, hy1⟩ := flat_at hBq (0, 0, 0, 0) (k : Int) (Int.natCast_nonneg k) hlt5
   rw [Int.toNat_natCast] at hy0 hy1
   have hrel2 := rel_leaf (P := addC P (bc.getD k (0, 0, 0, 0))) (bc := bc) (sh := an.length) (k := (addC P (bc.getD k (0, 0, 0, 0))).idxOf (bc.getD k (0, 0, 0, 0))) hn1 (by rw [hkk, Int.toNat_natCast]; exact addC_at P _)
   rw [hn1] at hrel2 e0
   rw [hkk] at e1
   generalize bc.getD k (0, 0, 0, 0) = d at *
   have HPRE := addC_pre P d
   have HREL := Aside0.mk hrel2
   have HAL := Aside0.mk (addC_len P d)
   have PL := fun W hk HO HB => rg_place w rb (.slice AC P.length cC) (.slice AN NN.length cN) P d W hk HO HB hwb hPL
   have y0 := pZc HB (hy0 _ rfl)
   have y1 := pZc HB (hy1 1 _ (by decide) rfl)
   have y2 := pZc HB (hy1 2 _ (by decide) rfl)
   have y3 := pZc HB (hy1 3 _ (by decide) rfl)
   have y4 := pZc HB (hy1 4 _ (by decide) rfl)
   have y5 := pZc HB (hy1 5 _ (by decide) rfl)
   have y6 := pZc HB (hy1 6 _ (by decide) rfl)
   have hk0' : (0 ≤ (k : Int)) = True := eq_true (Int.natCast_nonneg k)
   have hk1' : ((k : Int) < (bc.length : Int)) = True := eq_true hlt5
   clear hy0 hy1 hrel2 hk0 hk1 hkk hlt5 hn hok
   unfold cv at PL
   generalize ((addC P d).idxOf d : Nat) = ix at *
   generalize n.2.2.1 = n3 at *
   generalize n.2.2.2 = n4 at *
   generalize d.1 = kk at *
   generalize itx d.2.1.num = s1 at *
   generalize itx (d.2.1.den : Int) = s2 at *
   generalize itx d.2.2.1.num = s3 at *
   generalize itx (d.2.2.1.den : Int) = s4 at *
   generalize itx d.2.2.2.num = s5 at *
   generalize itx (d.2.2.2.den : Int) = s6 at *
   have hb9 : Below wr.heap.size wr (wr.alloc (.cells #[.int .i64 1, .int .i64 k, .int .i64 n3, .int .i64 n4] 93)) := bZa (Below.refl _ _) _
   have hB9 := bZs HB hb9
   have k9 := Blk.new wr #[.int .i64 1, .int .i64 k, .int .i64 n3, .int .i64 n4] 93
   have Y0 := Z0.alloc (.cells #[.int .i64 1, .int .i64 k, .int .i64 n3, .int .i64 n4] 93)
   have Y1 := Z1.alloc (.cells #[.int .i64 1, .int .i64 k, .int .i64 n3, .int .i64 n4] 93)
   have Y2 := Z2.alloc (.cells #[.int .i64 1, .int .i64 k, .int .i64 n3, .int .i64 n4] 93)
   have Y3 := Z3.alloc (.cells #[.int .i64 1, .int .i64 k, .int .i64 n3, .int .i64 n4] 93)
   have HC9 : OwnK kCv 91 (wr.alloc (.cells #[.int .i64 1, .int .i64 k, .int .i64 n3, .int .i64 n4] 93)) w.heap.size (.slice AC P.length cC) P := OwnK.alloc HC _
   have HN9 : OwnK kNd 93 (wr.alloc (.cells #[.int .i64 1, .int .i64 k, .int .i64 n3, .int .i64 n4] 93)) w.heap.size (.slice AN NN.length cN) NN := OwnK.alloc HN _
   have w0' := pZc hb9 y0
   have w1' := pZc hb9 y1
   have w2' := pZc hb9 y2
   have w3' := pZc hb9 y3
   have w4' := pZc hb9 y4
   have w5' := pZc hb9 y5
   have w6' := pZc hb9 y6
   have b0 := Y1.cell 0
   have b1 := Y1.cell 1
   go_wp2_with (first | (go_at_call 149; refine (PL _ Y3 HC9 hB9).mono ?_; clear PL; rintro e w6 ⟨vC', rfl, U3, HC6, HB6, ST⟩; have L6 := ST.blk k9 (Ne.symm m3) (own_blk_ne HC9 k9 (by decide)); have U0 := ST.blk Y0 n0 (own_blk_ne HC9 Y0 (by decide)); have U1 := ST.blk Y1 nn1 (own_blk_ne HC9 Y1 (by decide)); have U2 := ST.blk Y2 nn2 (own_blk_ne HC9 Y2 (by decide)); have HN6 := ST.own rfl HN9 Y3 (by decide) (own_ty HC9) (by decide); have l1 := L6.cell 1; have l2 := L6.frozen 1; have L7 := L6.set 1 (.int .i64 (ix : Int)); have l3 := L7.cell 0; have l4 := L7.cell 1; have l5 := L7.cell 2; have l6 := L7.cell 3; have V0 := U0.far (p := ⟨wr.heap.size, 1, none⟩) m0 (.int .i64 (ix : Int)); have V1 := U1.far (p := ⟨wr.heap.size, 1, none⟩) m1 (.int .i64 (ix : Int)); have V2 := U2.far (p := ⟨wr.heap.size, 1, none⟩) m2 (.int .i64 (ix : Int)); have V3 := U3.far (p := ⟨wr.heap.size, 1, none⟩) m3 (.int .i64 (ix : Int)); have v3 := V3.cell 1; have HC7 : OwnK kCv 91 _ _ _ _ := own_far HC6 (p := ⟨wr.heap.size, 1, none⟩) (own_blk_ne HC6 L6 (by decide)) (.int .i64 (ix : Int)); have HN7 : OwnK kNd 93 _ _ _ _ := own_far HN6 (p := ⟨wr.heap.size, 1, none⟩) (fun e => Nat.lt_irrefl _ (hHNl _ e.symm)) (.int .i64 (ix : Int)); have HB7 := bZe (g := wr.heap.size) (j := 1) (v := .int .i64 (ix : Int)) HB6 hwl) | (at_builtin; refine appNd (w0 := w) w.heap.size (.tmp 98) (.tmp 100) 40 rfl rfl Tryz.underlying40 (.slice AN NN.length cN) NN (1, (ix : Int), n3, n4) rfl (by rw [World.size_setCell]; rfl) HN7 HB7 (bZz HB7) hle.out ?_; intro v1 w8 HN8 HB8 HG8; obtain ⟨A5, c5, e5⟩ := Kd.R_slice HN8; rw [List.length_append, List.length_singleton] at e5; subst e5; have X0 := V0.kept HG8 (HN7.not_blk V0 (by decide)); have X1 := V1.kept HG8 (HN7.not_blk V1 (by decide)); have X2 := V2.kept HG8 (HN7.not_blk V2 (by decide)); have X3 := V3.kept HG8 (HN7.not_blk V3 (by decide)); have HC8 : OwnK kCv 91 _ _ _ _ := own_kept HC7 HG8 (own_ne2 HC7 HN7 (by decide)); have x3 := X3.cell 1; have x4 := X3.frozen 1))
   go_roundg m
   case measure => omega
   case rel =>
    have HN10 := OwnK.set HN8 X3 (by decide) 1 (.slice A5 (NN.length + 1) c5)
    have hnn : NN ++ [(1, (ix : Int), n3, n4)] = an ++ (M ++ [(1, (ix : Int), n3, n4)]) := by rw [← HNN.out, List.append_assoc]
    rw [hnn] at HN10
    exact ⟨i + 1, addC P d, M ++ [(1, (ix : Int), n3, n4)], vC', _, (by first | rfl | exact congrArg _ HW.out), him.out, X0.far (p := ⟨rb, 1, none⟩) n0 _, X1.far (p := ⟨rb, 1, none⟩) nn1 _, X2.far (p := ⟨rb, 1, none⟩) nn2 _, X3.set 1 _, OwnK.set HC8 X3 (by decide) 1 _, HN10, bZe HB8 hwb, List.IsPrefix.trans hpre HPRE, by rw [hts.out]; exact relL_snoc (relL_mono hrl HPRE) HREL.out, Nat.le_trans HAL.out HSTEP.out⟩
  ·have hb3 : 0 ≤ n.2.2.1 ∧ n.2.2.1 < 200 ∧ 0 ≤ n.2.2.2 ∧ n.2.2.2 < 200 := by
    rcases hok with ⟨h1, _⟩ | ⟨_, _, h3, h4, h5, h6⟩
    ·exact absurd h1 hn1
    ·omega
   have hrel2 := rel_not (P := P) (bc := bc) (sh := an.length) hn1
   have HREL := Aside0.mk hrel2
   have hw3' := wrap_n hb3.1 hb3.2.1 hnan'
   have hw4' := wrap_n hb3.2.2.1 hb3.2.2.2 hnan'
   clear hrel2 hok hb3 hn
   generalize n.2.2.1 = n3 at *
   generalize n.2.2.2 = n4 at *
   generalize n.2.1 = n2 at *
   generalize n.1 = n1 at *
   have HB7 := bZa HB (.cells #[.int .i64 n1, .int .i64 n2, .int .i64 (n3 + (an.length : Int)), .int .i64 (n4 + (an.length : Int))] 93)
   have V0 := Z0.alloc (.cells #[.int .i64 n1, .int .i64 n2, .int .i64 (n3 + (an.length : Int)), .int .i64 (n4 + (an.length : Int))] 93)
   have V1 := Z1.alloc (.cells #[.int .i64 n1, .int .i64 n2, .int .i64 (n3 + (an.length : Int)), .int .i64 (n4 + (an.length : Int))] 93)
   have V2 := Z2.alloc (.cells #[.int .i64 n1, .int .i64 n2, .int .i64 (n3 + (an.length : Int)), .int .i64 (n4 + (an.length : Int))] 93)
   have V3 := Z3.alloc (.cells #[.int .i64 n1, .int .i64 n2, .int .i64 (n3 + (an.length : Int)), .int .i64 (n4 + (an.length : Int))] 93)
   have HC7 : OwnK kCv 91 (wr.alloc (.cells #[.int .i64 n1, .int .i64 n2, .int .i64 (n3 + (an.length : Int)), .int .i64 (n4 + (an.length : Int))] 93)) w.heap.size (.slice AC P.length cC) P := OwnK.alloc HC _
   have HN7 : OwnK kNd 93 (wr.alloc (.cells #[.int .i64 n1, .int .i64 n2, .int .i64 (n3 + (an.length : Int)), .int .i64 (n4 + (an.length : Int))] 93)) w.heap.size (.slice AN NN.length cN) NN := OwnK.alloc HN _
   have v3 := V3.cell 1
   go_wp2_with (at_builtin; refine appNd (w0 := w) w.heap.size (.tmp 98) (.tmp 100) 40 rfl rfl Tryz.underlying40 (.slice AN NN.length cN) NN (n1, n2, n3 + (an.length : Int), n4 + (an.length : Int)) rfl (by first | rfl | (rw [World.size_alloc]; rfl)) HN7 HB7 (bZz HB7) hle.out ?_; intro v1 w8 HN8 HB8 HG8; obtain ⟨A5, c5, e5⟩ := Kd.R_slice HN8; rw [List.length_append, List.length_singleton] at e5; subst e5; have X0 := V0.kept HG8 (HN7.not_blk V0 (by decide)); have X1 := V1.kept HG8 (HN7.not_blk V1 (by decide)); have X2 := V2.kept HG8 (HN7.not_blk V2 (by decide)); have X3 := V3.kept HG8 (HN7.not_blk V3 (by decide)); have HC8 : OwnK kCv 91 _ _ _ _ := own_kept HC7 HG8 (own_ne2 HC7 HN7 (by decide)); have x3 := X3.cell 1; have x4 := X3.frozen 1)
   go_roundg m
   case measure => omega
   case rel =>
    have HN10 := OwnK.set HN8 X3 (by decide) 1 (.slice A5 (NN.length + 1) c5)
    have hnn : NN ++ [(n1, n2, n3 + (an.length : Int), n4 + (an.length : Int))] = an ++ (M ++ [(n1, n2, n3 + (an.length : Int), n4 + (an.length : Int))]) := by rw [← HNN.out, List.append_assoc]
    rw [hnn] at HN10
    exact ⟨i + 1, P, M ++ [(n1, n2, n3 + (an.length : Int), n4 + (an.length : Int))], _, _, (by first | rfl | exact congrArg _ HW.out), him.out, X0.far (p := ⟨rb, 1, none⟩) n0 _, X1.far (p := ⟨rb, 1, none⟩) nn1 _, X2.far (p := ⟨rb, 1, none⟩) nn2 _, X3.set 1 _, OwnK.set HC8 X3 (by decide) 1 _, HN10, bZe HB8 hwb, hpre, by rw [hts.out]; exact relL_snoc hrl HREL.out, Nat.le_trans (Nat.le_succ _) HSTEP.out⟩
end Go.Proofs.YtociicfjhgfgpaaGreatDoor

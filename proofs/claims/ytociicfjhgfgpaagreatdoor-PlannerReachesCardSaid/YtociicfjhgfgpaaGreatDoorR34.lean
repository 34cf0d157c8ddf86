/- region: Combine: the union: the walk. planner: the closure that adds a region: the walk. As Uni, with one more kind of early operation: a store whose class of worlds is told, within a base class in wh. A block's cells, one by one. -/
import Derived.Test.YtociicfjhgfgpaaGreatDoorR32
import Derived.Test.YtociicfjhgfgpaaGreatDoorR33
import Derived.Test.YtociicfjhgfgpaaGreatDoorR19
import Derived.Test.YtociicfjhgfgpaaGreatDoorR02
set_option linter.unusedVariables false
set_option linter.unusedSimpArgs false
set_option maxHeartbeats 16000000
set_option maxRecDepth 100000
namespace Go.Proofs.YtociicfjhgfgpaaGreatDoor
open Go.RowKit Go.Shelf Go.Lib Go.Proofs.YtociicfjhgfgpaaGreatDoorW.PrintWords
theorem sz_nil0 : okR ([], []) := ⟨by simp, by simp, fun _ => rfl, by simp, by simp, trivial⟩
theorem rg_CombineE (va vb : Value) (b : Rg) (w : World) (hp : Pow w) (hva : RdR w va ([], [])) (hvb : RdR w vb b) (hb : okR b) (sb : ∀ c ∈ b.1, SqC c) (nb : b.2 ≠ []) :
  Calls Tryz.prog 87 #[.int .i64 2, va, vb] w fun e w' => ∃ v, e = .returned (.tuple #[v, .int .i64 0]) ∧ OwnR w' w.heap.size v b ∧ Below w.heap.size w w' := by
 have VA := fun W hp hv => rg_Valid va ([], []) W hp hv sz_nil0 (by simp)
 have VB := fun W hp hv => rg_Valid vb b W hp hv hb sb
 have CP := fun W hv => rg_copied vb b W hv hb.nc hb.nn
 have hva' := hva
 have hvb' := hvb
 obtain ⟨bc, bn⟩ := b
 dsimp only at *
 have lb : 0 < bn.length := List.length_pos_iff.2 nb
 clear hb sb nb
 obtain ⟨u, n, rfl, ⟨Ac, cc, rfl, hAc, hAq⟩, ⟨An, cn, rfl, hAn, hAnq⟩⟩ := hva
 obtain ⟨u, n, rfl, ⟨Bc, dc, rfl, hBc, hBq⟩, ⟨Bn, dn, rfl, hBn, hBnq⟩⟩ := hvb
 have he2 : ((bn.length : Int) = 0) = False := eq_false (by omega)
 have he4 : decide ((bn.length : Int) = 0) = false := decide_eq_false (by omega)
 have he6 : ((bn.length : Int) == 0) = false := beq_eq_false_iff_ne.2 (by omega)
 clear lb hAc hAq hAn hAnq
 simp only [List.length_nil] at *
 obtain ⟨hB0, k0, k1, k2⟩ := news3 w #[.slice Ac 0 cc, .slice An 0 cn] 42 #[.slice Bc bc.length dc, .slice Bn bn.length dn] 42 #[.slice none 0 0, .slice none 0 0] 42
 go_enter Tryz.func87, Tryz.ntmps87
 go_wp2_with (first | (go_at_call 40; refine (VA _ (hp.below hB0) (hva'.below hB0)).mono ?_; clear VA; rintro e w1 ⟨rfl, hb1⟩; have hB1 := bZs hB0 hb1; have K0 := k0.below hb1; have K1 := k1.below hb1; have K2 := k2.below hb1; obtain ⟨f0, f1, _, _⟩ := K0.two; obtain ⟨f2, f3, _, _⟩ := K1.two) | (go_at_call 40; refine (VB _ (hp.below hB1) (hvb'.below hB1)).mono ?_; clear VB; rintro e w2 ⟨rfl, hb2⟩; have hB2 := bZs hB1 hb2; have L0 := K0.below hb2; have L1 := K1.below hb2; have L2 := K2.below hb2; obtain ⟨g0, g1, _, _⟩ := L0.two; obtain ⟨g2, g3, _, _⟩ := L1.two) | (go_at_call 148; refine (CP _ (hvb'.below hB2)).mono ?_; clear CP; rintro e w4 ⟨v4, rfl, ⟨uC, uN, rfl, HC4, HN4⟩, hb4⟩; have HC5 := Kd.R_lower HC4 (bZz hB2); have HN5 := Kd.R_lower HN4 (bZz hB2); have hB4 := bZs hB2 hb4; obtain ⟨A1, c1, e1⟩ := Kd.R_slice HC5; obtain ⟨B1, d1, e2⟩ := Kd.R_slice HN5; subst e1 e2; have M2 := L2.below hb4; obtain ⟨y0, y1, y2, y3⟩ := M2.two))
 have HC6 : OwnK kCv 91 w4 w.heap.size (.slice A1 bc.length c1) bc := HC5
 have HN6 : OwnK kNd 93 w4 w.heap.size (.slice B1 bn.length d1) bn := HN5
 have HC7 := (HC6.set M2 (by decide) 0 (.slice A1 bc.length c1)).set (M2.set 0 _) (by decide) 1 (.slice B1 bn.length d1)
 have HN7 := (HN6.set M2 (by decide) 0 (.slice A1 bc.length c1)).set (M2.set 0 _) (by decide) 1 (.slice B1 bn.length d1)
 refine bodyPost_ret (results_ct rfl _ _ (w.heap.size + 2) 42 #[.slice A1 bc.length c1, .slice B1 bn.length d1] (0, 0) _ rfl ((M2.set 0 _).set 1 _) Tryz.underlying42 rfl (by kernel_rfl)) rfl ?_
 exact ⟨_, rfl, ⟨_, _, rfl, HC7, HN7⟩, bZe (bZe hB4 (by omega)) (by omega)⟩
theorem rg_Union (va vb : Value) (a b : Rg) (w : World) (hp : Pow w) (hva : RdR w va a) (hvb : RdR w vb b) (ha : okR a) (hb : okR b) (sa : ∀ c ∈ a.1, SqC c) (sb : ∀ c ∈ b.1, SqC c) (nb : b.2 ≠ []) (h1 : (cmb 2 a b).1.length ≤ 24) (h2 : (cmb 2 a b).2.length ≤ 120) :
  Calls Tryz.prog 87 #[.int .i64 2, va, vb] w fun e w' => ∃ v, e = .returned (.tuple #[v, .int .i64 0]) ∧ OwnR w' w.heap.size v (cmb 2 a b) ∧ Below w.heap.size w w' := by
 by_cases na : a.2 = []
 ·have na1 := ha.some na
  have e : cmb 2 a b = b := by
   unfold cmb
   rw [if_neg (fun h => nb h.1), if_pos ⟨na, rfl⟩]
  rw [e]
  obtain ⟨ac, an⟩ := a
  simp only at na na1
  subst na na1
  exact rg_CombineE va vb b w hp hva hvb hb sb nb
 ·have e : cmb 2 a b = cmb2 2 a b := by
   unfold cmb
   rw [if_neg (fun h => nb h.1), if_neg (fun h => na h.1), if_neg (fun h => h.elim na nb)]
  rw [e] at h1 h2 ⊢
  exact rg_Combine2 2 va vb a b w hp (.inl rfl) hva hvb ha hb sa sb na nb h1 h2
theorem OwnR.lower {w : World} {a b : Nat} {v : Value} {r : Rg} (h : OwnR w a v r) (hb : b ≤ a) : OwnR w b v r := by
 obtain ⟨u, n, e, h1, h2⟩ := h
 exact ⟨u, n, e, Kd.R_lower h1 hb, Kd.R_lower h2 hb⟩
theorem OwnR.below {w w' : World} {a : Nat} {v : Value} {r : Rg} (h : OwnR w a v r) (hb : Below w.heap.size w w') : OwnR w' a v r := by
 obtain ⟨u, n, e, h1, h2⟩ := h
 exact ⟨u, n, e, h1.below hb, h2.below hb⟩
theorem OwnR.set {w : World} {a g : Nat} {v : Value} {r : Rg} {cs : Array Value} {t : TypeId} (h : OwnR w a v r) (hk : Blk w g cs t) (h1 : t ≠ 91) (h2 : t ≠ 93) (i : Nat) (u : Value) : OwnR (w.setCell ⟨g, i, none⟩ u) a v r := by
 obtain ⟨x, n, e, k1, k2⟩ := h
 refine ⟨x, n, e, k1.set hk (fun q hq => ?_) i u, k2.set hk (fun q hq => ?_) i u⟩
 ·have : q = 91 := by simpa [kCv, flat] using hq
  rw [this]
  exact Ne.symm h1
 ·have : q = 93 := by simpa [kNd, flat] using hq
  rw [this]
  exact Ne.symm h2
def Stay1 (w w' : World) (b : Nat) : Prop := w.heap.size ≤ w'.heap.size ∧ ∀ k, k < w.heap.size → k ≠ b → w'.heap[k]? = w.heap[k]?
theorem Stay1.blk {w w' : World} {b g : Nat} {cs : Array Value} {t : TypeId} (h : Stay1 w w' b) (hk : Blk w g cs t) (hn : g ≠ b) : Blk w' g cs t := (h.2 g hk.lt hn).trans hk
def SqR (r : Rg) : Prop := ∀ c ∈ r.1, SqC c
theorem SqR.cmb {op : Int} {r s : Rg} (h : SqR r) (k : SqR s) : SqR (cmb op r s) := fun c hc => (cmb_mem hc).elim (h c) (k c)
theorem pl_add {m n p q : Nat} (w0 : World) (b : Nat) (vr vs : Value) (r s : Rg) (w : World) (hp : Pow w) (u1 u2 : Value) (hvr : vr = .agg #[u1, u2]) (hk : Blk w b #[u1, u2] 42) (hr : OwnR w w0.heap.size vr r) (hs : RdR w vs s) (zr : szR m n r) (zs : szR p q s) (sr : SqR r) (ss : SqR s) (ns : s.2 ≠ []) (hm : m + p ≤ 24) (hn : n + q + 1 ≤ 120) (hb : w0.heap.size ≤ b) (HB : Below w0.heap.size w0 w) :
  Calls Tryz.prog 85 #[vs, .int .i64 0, .pointer (some ⟨b, 0, none⟩)] w fun e w' => ∃ u1' u2', e = .returned (.tuple #[]) ∧ Blk w' b #[u1', u2'] 42 ∧ OwnR w' w0.heap.size (.agg #[u1', u2']) (cmb 2 r s) ∧ Below w0.heap.size w0 w' ∧ Stay1 w w' b := by
 subst hvr
 have HU := fun W hp hva hvb => rg_Union (.agg #[u1, u2]) vs r s W hp hva hvb zr.1 zs.1 sr ss ns (Nat.le_trans (cmb_sz (.inl rfl) zr zs hm hn).2.1 hm) (Nat.le_trans (cmb_sz (.inl rfl) zr zs hm hn).2.2 hn)
 have hs' := hs
 obtain ⟨x, y, rfl, ⟨A, c, rfl, hA, hAq⟩, ⟨B, d, rfl, hB, hBq⟩⟩ := hs
 have hr' := hr
 obtain ⟨x, y, e, hr1, hr2⟩ := hr
 obtain ⟨OA, oc, e1⟩ := Kd.R_slice hr1
 obtain ⟨OB, od, e2⟩ := Kd.R_slice hr2
 injection e with e
 simp only [Array.mk.injEq, List.cons.injEq, and_true] at e
 obtain ⟨rfl, rfl⟩ := e
 subst e1 e2
 have MU := fun A m c B k d W => pl_mustR A B m c k d W
 obtain ⟨CR, hCR⟩ : ∃ t, cmb 2 r s = t := ⟨_, rfl⟩
 rw [hCR] at HU ⊢
 clear hCR zr zs sr ss ns hm hn hr1 hr2 hAq hBq
 have hB0 : Below w.heap.size w (w.alloc (.cells #[.slice A s.1.length c, .slice B s.2.length d] 42)) := bZa (Below.refl _ _) _
 have k0 := (Blk.new w #[.slice A s.1.length c, .slice B s.2.length d] 42).drew
 have kb := (hk.alloc (.cells #[.slice A s.1.length c, .slice B s.2.length d] 42)).drew
 have hB1 := bZd hB0
 go_enter Tryz.func85, Tryz.ntmps85
 go_wp2
 generalize (w.alloc (.cells #[.slice A s.1.length c, .slice B s.2.length d] 42)) = w3 at *
 refine rZu (fun i => i == 4 || i == 5 || i == 6 || i == 7 || i == 8) (fun W => Below w3.drew.heap.size w3.drew W) (by kernel_rfl) (cZb _) (Below.refl _ _) ?_
 refine wpU_f 0 5 (h1 := by intro W hW; have e0 := (kb.below hW).cell 0; have e1 := (kb.below hW).cell 1; go_simp; try rfl) (h3 := ?_)
 refine wpU_f 1 6 (h1 := by intro W hW; have e0 := (k0.below hW).cell 0; have e1 := (k0.below hW).cell 1; go_simp; try rfl) (h3 := ?_)
 apply wpU_e 2 7
 refine wpU_ca (v := .agg #[.slice A s.1.length c, .slice B s.2.length d]) (args := #[.agg #[.slice A s.1.length c, .slice B s.2.length d], .int .i64 0]) 3 8 Tryz.func86 (fun W hW => MU _ _ _ _ _ _ W) ?_
 refine wpU_ac ?_
 refine wpU_late (by kernel_rfl) (fun W1 hW1 => ?_)
 have hB2 := bZs hB1 hW1
 have HU1 := HU W1 (hp.below hB2) (hr'.below hB2).rd (hs'.below hB2)
 have kW := kb.below hW1
 refine wpAny_step1 (i := 4) (by kernel_rfl) rfl (by rfl) (fun K hK => ?_)
 go_simp
 go_at_call 87
 refine HU1.mono ?_
 rintro e w9 ⟨nv, rfl, ⟨x, y, rfl, HX, HY⟩, hb9⟩
 obtain ⟨XA, xc, ex⟩ := Kd.R_slice HX
 obtain ⟨YA, yc, ey⟩ := Kd.R_slice HY
 subst ex ey
 refine hK _ _ ?_
 clear hK K HU1 HU
 have hB3 := bZs hB2 hb9
 have kX := kW.below hb9
 refine wpAny_of_C (C := fun _ => True) (ex := fun i => i == 7 || i == 8) _ _ _ _ ?_
 refine wZt (i := 5) rfl (by kernel_rfl) (by kernel_rfl) (by kernel_rfl) (by kernel_rfl) (fun _ _ _ _ h => h) trivial (by rfl) ?_
 apply Exists.intro
 refine ⟨fun W hW => ?_, ?_⟩
 ·go_simp
  try rfl
 refine wZt (i := 6) rfl (by kernel_rfl) (by kernel_rfl) (by kernel_rfl) (by kernel_rfl) (fun _ _ _ _ h => h) trivial (by rfl) ?_
 apply Exists.intro
 refine ⟨fun W hW => ?_, ?_⟩
 ·go_simp
  try rfl
 refine wZs (i := 7) (by kernel_rfl) rfl (fun K hK => ?_)
 go_simp
 go_at_call 86
 refine (MU _ _ _ _ _ _ _).mono ?_
 rintro e w10 ⟨rfl, hb10⟩
 refine hK _ _ (fun _ => trivial) ?_
 clear hK K
 have kY := kX.below hb10
 have hB4 := bZs hB3 hb10
 obtain ⟨r0, r1, q0, q1⟩ := kY.two
 refine wZs (i := 8) (by kernel_rfl) rfl (fun K hK => ?_)
 go_simp
 refine hK _ _ (fun _ => trivial) ?_
 clear hK K
 refine wpAnyC_done (by kernel_rfl) ?_ _
 go_wp2
 go_end0
 have hO : OwnR w10 W1.heap.size (.agg #[.slice XA CR.1.length xc, .slice YA CR.2.length yc]) CR := ⟨_, _, rfl, HX.below hb10, HY.below hb10⟩
 have hO2 := (((hO.lower (bZz (bZs HB hB2))).set kY (by decide) (by decide) 0 (.slice XA CR.1.length xc)).set (kY.set 0 _) (by decide) (by decide) 1 (.slice YA CR.2.length yc))
 exact ⟨_, _, rfl, (kY.set 0 _).set 1 _, hO2, bZe (bZe (bZs HB hB4) hb) hb, ⟨by rw [World.size_setCell, World.size_setCell]; exact bZz hB4, fun k hk' hkb => (Below.heap_setCell _ ⟨b, 1, none⟩ _ k hkb).trans ((Below.heap_setCell _ ⟨b, 0, none⟩ _ k hkb).trans (hB4.block k hk'))⟩⟩
end Go.Proofs.YtociicfjhgfgpaaGreatDoor
namespace Go.Proofs.YtociicfjhgfgpaaGreatDoor
open Go Go.RowKit Go.Proofs.YtociicfjhgfgpaaGreatDoorW.PrintWords
variable {P : Program} {ops : Array Oper} {Q : Exit → Act → World → Prop} {md : Region.Mode} {ex : Nat → Bool} {C0 : World → Prop}
def YieldsS (P : Program) (ops : Array Oper) (C C' : World → Prop) (o : Oper) (a : Act) : Prop :=
 Region.wanted o (yielded ops a.tmps) = true ∧ ∀ w, C w → ∃ w', (execOp a.eval o).run P w = .ok .skip w' ∧ C' w'
theorem YieldsS.of_same {C C' : World → Prop} {o : Oper} {a a' : Act} (hy : YieldsS P ops C C' o a) (he : execOp a'.eval o = execOp a.eval o)
  (hw : Region.wanted o (yielded ops a'.tmps) = Region.wanted o (yielded ops a.tmps)) : YieldsS P ops C C' o a' := by
 unfold YieldsS at *
 rw [he, hw]
 exact hy
def wpV (C0 : World → Prop) (P : Program) (md : Region.Mode) (ops : Array Oper) (Q : Exit → Act → World → Prop) (ex : Nat → Bool) : Nat → (World → Prop) → Array Bool → Act → Prop
 | 0, C, listed, a => Region.ready md ops listed = [] ∧ ∀ w, C w → Q .normal a w
 | fuel + 1, C, listed, a =>
  (Region.ready md ops listed = [] → ∀ w, C w → Q .normal a w) ∧
  ∀ i ∈ Region.ready md ops listed,
   (ex i = true ∧ ∀ w, C w → wpOp P ops Q i (wpAny P md ops Q fuel (listed.setIfInBounds i true)) a w) ∨
   (∃ o v, ops[i]? = some o ∧ YieldsG P ops C o v a ∧ wpV C0 P md ops Q ex fuel C (listed.setIfInBounds i true) (a.put o.dst v)) ∨
   (∃ (o : Oper) (fv : Nat → Value) (cs : Array Value) (t : TypeId), ops[i]? = some o ∧ YieldsN P ops o fv cs t a ∧ ∀ g, (∃ w, C w ∧ g = w.heap.size) → wpV C0 P md ops Q ex fuel (fun W => C W ∧ Blk W g cs t) (listed.setIfInBounds i true) (a.put o.dst (fv g))) ∨
   (∃ (o : Oper) (C' : World → Prop), ops[i]? = some o ∧ Closed C' ∧ (∀ w, C' w → C0 w) ∧ YieldsS P ops C C' o a ∧ wpV C0 P md ops Q ex fuel C' (listed.setIfInBounds i true) (a.put o.dst undef))
theorem wpV_sound : ∀ (fuel : Nat) {C : World → Prop} (listed : Array Bool) (a : Act) (w : World), Closed C → C w → wpV C0 P md ops Q ex fuel C listed a → wpAny P md ops Q fuel listed a w
 | 0, _, _, _, w, _, hC, H => ⟨H.1, H.2 w hC⟩
 | fuel + 1, C, listed, a, w, hcl, hC, H => by
  refine ⟨fun hr => H.1 hr w hC, fun i hi => ?_⟩
  rcases H.2 i hi with ⟨_, h1⟩ | ⟨o, v, ho, hy, hr⟩ | ⟨o, fv, cs, t, ho, ⟨hw, hy⟩, hr⟩ | ⟨o, C', ho, hc', _, ⟨hw, hy⟩, hr⟩
  ·exact h1 w hC
  ·unfold wpOp
   simp only [ho]
   rcases hy with ⟨hw, h2 | ⟨f, args, h2⟩⟩ | ⟨hw, rfl⟩
   ·simp only [hw, if_true, Oper.wp, h2 w hC, Oper.upon]
    exact .inl (wpV_sound fuel _ _ w hcl hC hr)
   ·simp only [hw, if_true, Oper.wp, (h2 w hC).1, Oper.upon]
    refine .inl (Calls.mono (h2 w hC).2 ?_)
    rintro e w' ⟨rfl, hb⟩
    exact wpV_sound fuel _ _ w' hcl (hcl w w' hC hb) hr
   ·simp only [hw, Bool.false_eq_true, if_false]
    exact wpV_sound fuel _ _ w hcl hC hr
  ·unfold wpOp
   simp only [ho]
   simp only [hw, if_true, Oper.wp, hy w, Oper.upon]
   exact .inl (wpV_sound fuel _ _ _ (closed_and hcl (closed_blk _ cs t)) ⟨hcl w _ hC (bZa (Below.refl _ _) _), Blk.new w cs t⟩ (hr _ ⟨w, hC, rfl⟩))
  ·unfold wpOp
   simp only [ho]
   obtain ⟨w', hrun, hC'⟩ := hy w hC
   simp only [hw, if_true, Oper.wp, hrun, Oper.upon]
   exact .inl (wpV_sound fuel _ _ _ hc' hC' hr)
theorem wp_region_V {id : Nat} {a : Act} {w : World} (ex : Nat → Bool) (C0 C : World → Prop) (hm : P.follows .mixedOrders = true) (hcl : Closed C) (hC : C w.drew)
  (h : wpV C0 P .any ops Q ex ops.size C (Array.replicate ops.size false) a) : (Code.region id ops true).wp P Q a w :=
 wp_region_any hm (wpV_sound _ _ _ _ hcl hC h)
theorem wpV_weak : ∀ (fuel : Nat) {C D : World → Prop} (listed : Array Bool) (a : Act), (∀ w, D w → C w) → wpV C0 P md ops Q ex fuel C listed a → wpV C0 P md ops Q ex fuel D listed a
 | 0, _, _, _, _, h, H => ⟨H.1, fun w hw => H.2 w (h w hw)⟩
 | fuel + 1, _, _, listed, a, h, H => by
  refine ⟨fun he w hw => H.1 he w (h w hw), fun i hi => ?_⟩
  rcases H.2 i hi with ⟨hx, h1⟩ | ⟨o, v, ho, hy, hr⟩ | ⟨o, fv, cs, t, ho, hy, hr⟩ | ⟨o, C', ho, hc', hle, hy, hr⟩
  ·exact .inl ⟨hx, fun w hw => h1 w (h w hw)⟩
  ·exact .inr (.inl ⟨o, v, ho, hy.weak h, wpV_weak fuel _ _ h hr⟩)
  ·exact .inr (.inr (.inl ⟨o, fv, cs, t, ho, hy, fun g ⟨w, hw, e⟩ => wpV_weak fuel _ _ (fun w hw => ⟨h w hw.1, hw.2⟩) (hr g ⟨w, h w hw, e⟩)⟩))
  ·exact .inr (.inr (.inr ⟨o, C', ho, hc', hle, ⟨hy.1, fun w hw => hy.2 w (h w hw)⟩, hr⟩))
theorem wpV_first {i : Nat} {oi : Oper} {v : Value} (hi : ops[i]? = some oi) (hsel : ∀ (j : Nat) (o : Oper) cs b, ops[j]? = some o → o.op ≠ .select cs b)
  (hex : ∀ j oj, ops[j]? = some oj → ex j = true → waits md ops 12 j i = true) :
  ∀ (fuel : Nat) (C : World → Prop) (listed : Array Bool) (a : Act), (∀ w, C w → C0 w) → Down md ops listed →
   (∀ j oj, ops[j]? = some oj → j ≠ i → listed.getD j true = false → (∀ e ∈ oj.after, Region.binds md e = true → e.on ≠ i) → oi.apart ops oj = true) →
   i ∈ Region.ready md ops listed → YieldsG P ops C0 oi v a →
   wpV C0 P md ops Q ex fuel C (listed.setIfInBounds i true) (a.put oi.dst v) → wpV C0 P md ops Q ex (fuel + 1) C listed a := by
 intro fuel
 induction fuel with
 | zero =>
  intro C listed a hle _ _ hr hy H
  refine ⟨fun h => (by rw [h] at hr; cases hr), fun j hj => ?_⟩
  by_cases hji : j = i
  ·subst hji
   exact .inr (.inl ⟨oi, v, hi, hy.weak hle, H⟩)
  ·have := ready_mono hj hji
   rw [H.1] at this
   cases this
 | succ fuel ih =>
  intro C listed a hle hdn hfree hr hy H
  refine ⟨fun h => (by rw [h] at hr; cases hr), fun j hj => ?_⟩
  by_cases hji : j = i
  ·subst hji
   exact .inr (.inl ⟨oi, v, hi, hy.weak hle, H⟩)
  ·obtain ⟨hjun, oj, hoj, hall⟩ := mem_ready.1 hj
   have hnot : ∀ e ∈ oj.after, Region.binds md e = true → e.on ≠ i := fun e he hb heq => by
    have h1 := hall e he hb
    have h0 := (mem_ready.1 hr).1
    rw [heq] at h1
    rcases Nat.lt_or_ge i listed.size with h' | h'
    ·simp [h'] at h0 h1; rw [h0] at h1; cases h1
    ·simp [Array.getElem?_eq_none h'] at h1
   have hap := hfree j oj hoj hji hjun hnot
   obtain ⟨p1, p2, p3⟩ := Oper.apart_spec hap
   have si := fun cs b => hsel i oi cs b hi
   have sj := fun cs b => hsel j oj cs b hoj
   have hfree' : ∀ k ok, ops[k]? = some ok → k ≠ i → (listed.setIfInBounds j true).getD k true = false →
     (∀ e ∈ ok.after, Region.binds md e = true → e.on ≠ i) → oi.apart ops ok = true := fun k ok hk hki hun hno => by
    refine hfree k ok hk hki ?_ hno
    by_cases hjk : j = k
    ·subst hjk; exact hjun
    ·rw [getD_set_ne true hjk] at hun; exact hun
   have hdn' : Down md ops (listed.setIfInBounds j true) := by
    intro k ok hk hkl e he hb
    by_cases hjk : j = k
    ·subst hjk
     obtain rfl : ok = oj := Option.some.inj (hk.symm.trans hoj)
     exact getD_set_true (hall e he hb)
    ·rw [getD_set_ne false hjk] at hkl
     exact getD_set_true (hdn k ok hk hkl e he hb)
   rcases H.2 j (ready_mono hj hji) with ⟨hx, _⟩ | ⟨o, u, ho, hyj, hrj⟩ | ⟨o, fv, cs, t, ho, hyj, hrj⟩ | ⟨o, C', ho, hc', hle', hyj, hrj⟩
   ·have h1 := waits_listed hdn 12 j oj hoj hall (hex j oj hoj hx)
    have h0 := (mem_ready.1 hr).1
    rcases Nat.lt_or_ge i listed.size with h' | h'
    ·simp [h'] at h0 h1; rw [h0] at h1; cases h1
    ·simp [Array.getElem?_eq_none h'] at h1
   ·obtain rfl : oj = o := Option.some.inj (hoj.symm.trans ho)
    refine .inr (.inl ⟨oj, u, hoj, hyj.of_same (execOp_put oj sj a oi.dst v p1).symm (wanted_put oj a oi.dst v p1).symm, ?_⟩)
    refine ih C _ _ hle hdn' hfree' (ready_mono hr (Ne.symm hji)) (hy.of_same (execOp_put oi si a oj.dst u p3) (wanted_put oi a oj.dst u p3)) ?_
    rw [Array.setIfInBounds_comm _ _ hji, ← Act.put_comm a v u p2]
    exact hrj
   ·obtain rfl : oj = o := Option.some.inj (hoj.symm.trans ho)
    refine .inr (.inr (.inl ⟨oj, fv, cs, t, hoj, hyj.of_same (execOp_put oj sj a oi.dst v p1).symm (wanted_put oj a oi.dst v p1).symm, fun g hg => ?_⟩))
    refine ih _ _ _ (fun w h => hle w h.1) hdn' hfree' (ready_mono hr (Ne.symm hji)) (hy.of_same (execOp_put oi si a oj.dst (fv g) p3) (wanted_put oi a oj.dst (fv g) p3)) ?_
    rw [Array.setIfInBounds_comm _ _ hji, ← Act.put_comm a v (fv g) p2]
    exact hrj g hg
   ·obtain rfl : oj = o := Option.some.inj (hoj.symm.trans ho)
    refine .inr (.inr (.inr ⟨oj, C', hoj, hc', hle', hyj.of_same (execOp_put oj sj a oi.dst v p1).symm (wanted_put oj a oi.dst v p1).symm, ?_⟩))
    refine ih C' _ _ hle' hdn' hfree' (ready_mono hr (Ne.symm hji)) (hy.of_same (execOp_put oi si a oj.dst undef p3) (wanted_put oi a oj.dst undef p3)) ?_
    rw [Array.setIfInBounds_comm _ _ hji, ← Act.put_comm a v undef p2]
    exact hrj
theorem wpV_take {C : World → Prop} {i : Nat} {oi : Oper} {fuel : Nat} {listed : Array Bool} {a : Act} {d : Option Tmp} (hi : ops[i]? = some oi) (hd : oi.dst = d)
  (hs : Region.noSelect ops = true) (hf : Region.free md ops listed i = true) (hr : (Region.ready md ops listed).contains i = true) (hl : (lateAll md ops ex i && downB md ops listed) = true)
  (hw : Region.wanted oi (yielded ops a.tmps) = true)
  (hle : ∀ w, C w → C0 w) (h : ∃ v, (∀ w, C0 w → (execOp a.eval oi).run P w = .ok (.value v) w) ∧ wpV C0 P md ops Q ex fuel C (listed.setIfInBounds i true) (a.put d v)) : wpV C0 P md ops Q ex (fuel + 1) C listed a := by
 subst hd
 obtain ⟨v, hy, h⟩ := h
 exact wpV_first hi (Region.noSelect_spec hs) (lateAll_spec (Bool.and_eq_true_iff.1 hl).1).2 fuel C listed a hle (down_of (Bool.and_eq_true_iff.1 hl).2) (Region.free_spec hi hf) (by simpa using hr) (.inl ⟨hw, .inl hy⟩) h
theorem wpV_f (i t : Nat) {oi : Oper} {fuel : Nat} {listed : Array Bool} {a a2 : Act} {v : Value} (hi : ops[i]? = some oi := by exact rfl) (hd : oi.dst = some t := by exact rfl) (h1 : ∀ w, C0 w → (execOp a.eval oi).run P w = .ok (.value v) w) (h2 : a.put (some t) v = a2 := by (go_simp; try rfl)) (h3 : wpV C0 P md ops Q ex fuel C0 (listed.setIfInBounds i true) a2)
 (hs : Region.noSelect ops = true := by kernel_rfl) (hf : Region.free md ops listed i = true := by kernel_rfl)
 (hr : (Region.ready md ops listed).contains i = true := by kernel_rfl) (hl : (lateAll md ops ex i && downB md ops listed) = true := by kernel_rfl) (hw : Region.wanted oi (yielded ops a.tmps) = true := by rfl) : wpV C0 P md ops Q ex (fuel + 1) C0 listed a :=
 wpV_take hi hd hs hf hr hl hw (fun _ h => h) ⟨v, h1, h2 ▸ h3⟩
theorem wpV_e (i t : Nat) {oi : Oper} {fuel : Nat} {listed : Array Bool} {a a2 : Act} {v : Value} (hi : ops[i]? = some oi := by exact rfl) (hd : oi.dst = some t := by exact rfl) (h1 : ∀ w, C0 w → (execOp a.eval oi).run P w = .ok (.value v) w := by (intro W hW; go_simp; try rfl)) (h2 : a.put (some t) v = a2 := by (go_simp; try rfl)) (h3 : wpV C0 P md ops Q ex fuel C0 (listed.setIfInBounds i true) a2)
 (hs : Region.noSelect ops = true := by kernel_rfl) (hf : Region.free md ops listed i = true := by kernel_rfl)
 (hr : (Region.ready md ops listed).contains i = true := by kernel_rfl) (hl : (lateAll md ops ex i && downB md ops listed) = true := by kernel_rfl) (hw : Region.wanted oi (yielded ops a.tmps) = true := by rfl) : wpV C0 P md ops Q ex (fuel + 1) C0 listed a :=
 wpV_take hi hd hs hf hr hl hw (fun _ h => h) ⟨v, h1, h2 ▸ h3⟩
theorem wpV_new {C : World → Prop} {i : Nat} {oi : Oper} {fuel : Nat} {listed : Array Bool} {a : Act} {d : Option Tmp} (hi : ops[i]? = some oi) (hd : oi.dst = d) (hr : Region.ready md ops listed = [i])
  (hw : Region.wanted oi (yielded ops a.tmps) = true)
  (h : ∃ (fv : Nat → Value) (cs : Array Value) (t : TypeId), (∀ w, (execOp a.eval oi).run P w = .ok (.value (fv w.heap.size)) (w.alloc (.cells cs t))) ∧ ∀ g, (∃ w, C w ∧ g = w.heap.size) → wpV C0 P md ops Q ex fuel (fun W => C W ∧ Blk W g cs t) (listed.setIfInBounds i true) (a.put d (fv g))) : wpV C0 P md ops Q ex (fuel + 1) C listed a := by
 subst hd
 obtain ⟨fv, cs, t, hy, h⟩ := h
 refine ⟨fun h0 => (by rw [hr] at h0; cases h0), fun j hj => ?_⟩
 rw [hr] at hj
 obtain rfl : j = i := by simpa using hj
 exact .inr (.inr (.inl ⟨oi, fv, cs, t, hi, ⟨hw, hy⟩, h⟩))
theorem wpV_new2 {C : World → Prop} {i k : Nat} {oi ok : Oper} {fuel : Nat} {listed : Array Bool} {a : Act} {d d2 : Option Tmp} (hi : ops[i]? = some oi) (hk : ops[k]? = some ok) (hd : oi.dst = d) (hd2 : ok.dst = d2) (hs : Region.noSelect ops = true) (hr : Region.ready md ops listed = [i, k])
  (hr1 : Region.ready md ops (listed.setIfInBounds i true) = [k]) (hr2 : Region.ready md ops (listed.setIfInBounds k true) = [i]) (hap : oi.apart ops ok = true)
  (hw : Region.wanted oi (yielded ops a.tmps) = true) (hw2 : Region.wanted ok (yielded ops a.tmps) = true) (hne : i ≠ k)
  (h : ∃ (fv : Nat → Value) (cs : Array Value) (t : TypeId) (fv2 : Nat → Value) (cs2 : Array Value) (t2 : TypeId), (∀ w, (execOp a.eval oi).run P w = .ok (.value (fv w.heap.size)) (w.alloc (.cells cs t))) ∧ (∀ w, (execOp a.eval ok).run P w = .ok (.value (fv2 w.heap.size)) (w.alloc (.cells cs2 t2))) ∧
   ∀ g g2, (∃ w, C w ∧ g = w.heap.size) → (∃ w, C w ∧ g2 = w.heap.size) → g ≠ g2 → wpV C0 P md ops Q ex fuel (fun W => (C W ∧ Blk W g cs t) ∧ Blk W g2 cs2 t2) ((listed.setIfInBounds i true).setIfInBounds k true) ((a.put d (fv g)).put d2 (fv2 g2))) : wpV C0 P md ops Q ex (fuel + 2) C listed a := by
 subst hd hd2
 obtain ⟨fv, cs, t, fv2, cs2, t2, hy, hy2, h⟩ := h
 obtain ⟨p1, p2, p3⟩ := Oper.apart_spec hap
 have si := fun cs b => Region.noSelect_spec hs i oi cs b hi
 have sk := fun cs b => Region.noSelect_spec hs k ok cs b hk
 refine ⟨fun h0 => (by rw [hr] at h0; cases h0), fun j hj => ?_⟩
 rw [hr] at hj
 rcases List.mem_cons.1 hj with rfl | hj
 ·refine .inr (.inr (.inl ⟨oi, fv, cs, t, hi, ⟨hw, hy⟩, fun g hg => ?_⟩))
  have n : YieldsN P ops ok fv2 cs2 t2 (a.put oi.dst (fv g)) := YieldsN.of_same ⟨hw2, hy2⟩ (execOp_put ok sk a oi.dst _ p1) (wanted_put ok a oi.dst _ p1)
  exact wpV_new hk rfl hr1 n.1 ⟨fv2, cs2, t2, n.2, fun g2 ⟨W, hW, e⟩ => h g g2 hg ⟨W, hW.1, e⟩ (fun e' => by have := hW.2.lt; omega)⟩
 ·obtain rfl : j = k := by simpa using hj
  refine .inr (.inr (.inl ⟨ok, fv2, cs2, t2, hk, ⟨hw2, hy2⟩, fun g2 hg2 => ?_⟩))
  have n : YieldsN P ops oi fv cs t (a.put ok.dst (fv2 g2)) := YieldsN.of_same ⟨hw, hy⟩ (execOp_put oi si a ok.dst _ p3) (wanted_put oi a ok.dst _ p3)
  refine wpV_new hi rfl hr2 n.1 ⟨fv, cs, t, n.2, fun g ⟨W, hW, e⟩ => ?_⟩
  have := h g g2 ⟨W, hW.1, e⟩ hg2 (fun e' => by have := hW.2.lt; omega)
  rw [Array.setIfInBounds_comm _ _ hne, Act.put_comm a (fv g) (fv2 g2) p2] at this
  exact wpV_weak _ _ _ (fun W hW => ⟨⟨hW.1.1, hW.2⟩, hW.1.2⟩) this
theorem wpV_done {C : World → Prop} {listed : Array Bool} {a : Act} (hr : Region.ready md ops listed = []) (h : ∀ w, C w → Q .normal a w) : ∀ fuel, wpV C0 P md ops Q ex fuel C listed a
 | 0 => ⟨hr, h⟩
 | _ + 1 => ⟨fun _ => h, by rw [hr]; simp⟩
theorem wpV_store {C : World → Prop} (C' : World → Prop) {i : Nat} {oi : Oper} {fuel : Nat} {listed : Array Bool} {a : Act} {d : Option Tmp} (hi : ops[i]? = some oi) (hd : oi.dst = d) (hr : Region.ready md ops listed = [i]) (hc : Closed C') (hle : ∀ w, C' w → C0 w)
  (hw : Region.wanted oi (yielded ops a.tmps) = true) (hy : ∀ w, C w → ∃ w', (execOp a.eval oi).run P w = .ok .skip w' ∧ C' w')
  (h : wpV C0 P md ops Q ex fuel C' (listed.setIfInBounds i true) (a.put d undef)) : wpV C0 P md ops Q ex (fuel + 1) C listed a := by
 subst hd
 refine ⟨fun h0 => (by rw [hr] at h0; cases h0), fun j hj => ?_⟩
 rw [hr] at hj
 obtain rfl : j = i := by simpa using hj
 exact .inr (.inr (.inr ⟨oi, C', hi, hc, hle, ⟨hw, hy⟩, h⟩))
theorem run_store_row2 {o : Oper} {a : Act} {w : World} (ty : TypeId) (x y : Operand) (ho : o.op = .store ty x y) (g : Nat) (cells : Array Value) (hx : a.eval x = .pointer (some ⟨g, 0, none⟩)) (hy : a.eval y = .agg cells)
  (t : TypeId) (old : Array Value) (hg : w.heap[g]? = some (.cells old t (0, 0))) (hi : (P.info? ty).map (·.size) = some cells.size)
  (hold : old.size = cells.size) (h1 : cells.all (·.oneCell') = true) : (execOp a.eval o).run P w = .ok .skip (w.setRow g cells) := by
 unfold execOp
 simp only [ho, hx, hy, Instr.storeAt, Instr.sureAddr, Sem.run_bind, Sem.run_pure, Result.andThen_ok, run_storeVar_row w g t ty old cells hg hi hold h1]
end Go.Proofs.YtociicfjhgfgpaaGreatDoor
namespace Go.Proofs.YtociicfjhgfgpaaGreatDoor
variable {w : World} {b : Nat} {t : TypeId} {r : List Value}
theorem Blk.c0 {a0 : Value} (h : Blk w b (a0 :: r).toArray t) : w.cell? ⟨b, 0, none⟩ = some a0 := h.cell 0
theorem Blk.c1 {a0 a1 : Value} (h : Blk w b (a0 :: a1 :: r).toArray t) : w.cell? ⟨b, 1, none⟩ = some a1 := h.cell 1
theorem Blk.c2 {a0 a1 a2 : Value} (h : Blk w b (a0 :: a1 :: a2 :: r).toArray t) : w.cell? ⟨b, 2, none⟩ = some a2 := h.cell 2
theorem Blk.c3 {a0 a1 a2 a3 : Value} (h : Blk w b (a0 :: a1 :: a2 :: a3 :: r).toArray t) : w.cell? ⟨b, 3, none⟩ = some a3 := h.cell 3
theorem Blk.c4 {a0 a1 a2 a3 a4 : Value} (h : Blk w b (a0 :: a1 :: a2 :: a3 :: a4 :: r).toArray t) : w.cell? ⟨b, 4, none⟩ = some a4 := h.cell 4
theorem Blk.c5 {a0 a1 a2 a3 a4 a5 : Value} (h : Blk w b (a0 :: a1 :: a2 :: a3 :: a4 :: a5 :: r).toArray t) : w.cell? ⟨b, 5, none⟩ = some a5 := h.cell 5
theorem Blk.c6 {a0 a1 a2 a3 a4 a5 a6 : Value} (h : Blk w b (a0 :: a1 :: a2 :: a3 :: a4 :: a5 :: a6 :: r).toArray t) : w.cell? ⟨b, 6, none⟩ = some a6 := h.cell 6
theorem Blk.c7 {a0 a1 a2 a3 a4 a5 a6 a7 : Value} (h : Blk w b (a0 :: a1 :: a2 :: a3 :: a4 :: a5 :: a6 :: a7 :: r).toArray t) : w.cell? ⟨b, 7, none⟩ = some a7 := h.cell 7
theorem Blk.c8 {a0 a1 a2 a3 a4 a5 a6 a7 a8 : Value} (h : Blk w b (a0 :: a1 :: a2 :: a3 :: a4 :: a5 :: a6 :: a7 :: a8 :: r).toArray t) : w.cell? ⟨b, 8, none⟩ = some a8 := h.cell 8
theorem Blk.c9 {a0 a1 a2 a3 a4 a5 a6 a7 a8 a9 : Value} (h : Blk w b (a0 :: a1 :: a2 :: a3 :: a4 :: a5 :: a6 :: a7 :: a8 :: a9 :: r).toArray t) : w.cell? ⟨b, 9, none⟩ = some a9 := h.cell 9
theorem Blk.c10 {a0 a1 a2 a3 a4 a5 a6 a7 a8 a9 a10 : Value} (h : Blk w b (a0 :: a1 :: a2 :: a3 :: a4 :: a5 :: a6 :: a7 :: a8 :: a9 :: a10 :: r).toArray t) : w.cell? ⟨b, 10, none⟩ = some a10 := h.cell 10
theorem Blk.c11 {a0 a1 a2 a3 a4 a5 a6 a7 a8 a9 a10 a11 : Value} (h : Blk w b (a0 :: a1 :: a2 :: a3 :: a4 :: a5 :: a6 :: a7 :: a8 :: a9 :: a10 :: a11 :: r).toArray t) : w.cell? ⟨b, 11, none⟩ = some a11 := h.cell 11
theorem Blk.c12 {a0 a1 a2 a3 a4 a5 a6 a7 a8 a9 a10 a11 a12 : Value} (h : Blk w b (a0 :: a1 :: a2 :: a3 :: a4 :: a5 :: a6 :: a7 :: a8 :: a9 :: a10 :: a11 :: a12 :: r).toArray t) : w.cell? ⟨b, 12, none⟩ = some a12 := h.cell 12
theorem Blk.c16 {a0 a1 a2 a3 a4 a5 a6 a7 a8 a9 a10 a11 a12 a13 a14 a15 a16 : Value} (h : Blk w b (a0 :: a1 :: a2 :: a3 :: a4 :: a5 :: a6 :: a7 :: a8 :: a9 :: a10 :: a11 :: a12 :: a13 :: a14 :: a15 :: a16 :: r).toArray t) : w.cell? ⟨b, 16, none⟩ = some a16 := h.cell 16
theorem Blk.c17 {a0 a1 a2 a3 a4 a5 a6 a7 a8 a9 a10 a11 a12 a13 a14 a15 a16 a17 : Value} (h : Blk w b (a0 :: a1 :: a2 :: a3 :: a4 :: a5 :: a6 :: a7 :: a8 :: a9 :: a10 :: a11 :: a12 :: a13 :: a14 :: a15 :: a16 :: a17 :: r).toArray t) : w.cell? ⟨b, 17, none⟩ = some a17 := h.cell 17
theorem Blk.new2 (w : World) (c d : Array Value) (t u : TypeId) : Blk ((w.alloc (.cells c t)).alloc (.cells d u)) (w.heap.size + 1) d u := by
 have := Blk.new (w.alloc (.cells c t)) d u
 rwa [World.size_alloc] at this
end Go.Proofs.YtociicfjhgfgpaaGreatDoor

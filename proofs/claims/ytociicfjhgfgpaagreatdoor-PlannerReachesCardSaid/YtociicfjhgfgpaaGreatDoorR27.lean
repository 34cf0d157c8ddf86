/- region: rows of the call's own of any kind; Evaluate: the walk. -/
import Derived.Test.YtociicfjhgfgpaaGreatDoorR26
import Derived.Test.YtociicfjhgfgpaaGreatDoorR05
set_option linter.unusedVariables false
set_option linter.unusedSimpArgs false
set_option maxHeartbeats 16000000
set_option maxRecDepth 100000
namespace Go.Proofs.YtociicfjhgfgpaaGreatDoor
open Go.RowKit Go.Shelf Go.Lib Go.Proofs.YtociicfjhgfgpaaGreatDoorW.PrintWords
def OwnK {α : Type} (d : Kd α) (e : Nat) (w : World) (base : Nat) (v : Value) (xs : List α) : Prop := d.R e w base (fun _ => True) v xs
section
variable {α : Type} {d : Kd α} {e : Nat} {w w' : World} {base : Nat} {v : Value} {xs : List α}
theorem OwnK.rd (h : OwnK d e w base v xs) : RdK d w v xs := RdK.of_R h
theorem OwnK.below (h : OwnK d e w base v xs) (hb : Below w.heap.size w w') : OwnK d e w' base v xs := Kd.R_below h hb
theorem OwnK.drew (h : OwnK d e w base v xs) : OwnK d e w.drew base v xs := Kd.R_drew h
theorem OwnK.alloc (h : OwnK d e w base v xs) (o : Obj) : OwnK d e (w.alloc o) base v xs := Kd.R_alloc h o
theorem OwnK.nil (d : Kd α) (e : Nat) (w : World) (base : Nat) : OwnK d e w base (.slice none 0 0) [] := Kd.R_nil _ _ _ _ _
theorem OwnK.not_blk (h : OwnK d e w base v xs) {b : Nat} {cs : Array Value} {t : TypeId} (hk : Blk w b cs t) (ht : e ≠ t) : some b ≠ v.ownBlock := Kd.R_ne h hk ht
theorem OwnK.set (h : OwnK d e w base v xs) {b : Nat} {cs : Array Value} {t : TypeId} (hk : Blk w b cs t) (ht : ∀ q, q ∈ e :: d.E → q ≠ t) (i : Nat) (u : Value) : OwnK d e (w.setCell ⟨b, i, none⟩ u) base v xs := Kd.R_set h hk ht i u
end
section
variable {ops : Array Oper} {rest : List Oper} {o : Oper} {a : Act} {Q : Exit → Act → World → Prop}
theorem info4 : (Tryz.prog.info? 4).map (fun i => (i.zero, i.size, i.bytes)) = some (some (.bool false), 1, 1) := by kernel_rfl
theorem appBo {w0 W : World} (base : Nat) (s x : Operand) (t : TypeId) (hgd : o.guard = none) (ho : o.op = .call { callee := .builtin .append, args := #[s, x], argTypes := #[t, t] })
  (ht : Tryz.prog.underlying t = some (.slice 4)) (v : Value) (xs : List Bool) (y : Bool) (hs : a.eval s = v) (hx : a.eval x = .slice (some ⟨W.heap.size, 0, none⟩) 1 1)
  (HO : OwnK Kd.bool 4 W base v xs) (HB : Below base w0 W) (hbase : base ≤ W.heap.size) (hl : xs.length ≤ 120)
  (h : ∀ v1 w1, OwnK Kd.bool 4 w1 base v1 (xs ++ [y]) → Below base w0 w1 → W.grownBy w1 v.ownBlock → wpList Tryz.prog ops Q rest (a.put o.dst v1) w1) :
  wpList Tryz.prog ops Q (o :: rest) a (W.alloc (.cells #[.bool y] 4)) :=
 Kd.R_append Kd.bool base hgd s x t 4 (.bool false) 1 ho ht info4 rfl (by decide) (by omega) v xs y [.bool y] (fun _ => True) (fun _ => False) hs hx rfl (fun _ hk => hk.elim) (fun _ _ => trivial) HO HB hbase (by omega)
  (fun v1 w1 h1 h2 h3 _ => h v1 w1 h1 h2 h3)
end
def lastB (vs : List Bool) : Bool := vs.getLastD false
theorem lastB_snoc (vs : List Bool) (b : Bool) : lastB (vs ++ [b]) = b := by simp [lastB]
theorem evN_snoc (ins : List Bool) (ns : List Nd) (n : Nd) (vs : List Bool) : evN ins (ns ++ [n]) vs = evN ins ns vs ++ [ndV ins (evN ins ns vs) n] := by
 rw [evN_app]
 rfl
theorem evN_take (ins : List Bool) (ns : List Nd) (i : Nat) (hi : i < ns.length) : evN ins (ns.take (i + 1)) [] = evN ins (ns.take i) [] ++ [ndV ins (evN ins (ns.take i) []) (ns.getD i (0, 0, 0, 0))] := by
 rw [List.take_succ_eq_append_getElem hi, evN_snoc, List.getD_eq_getElem?_getD, List.getElem?_eq_getElem hi]
 rfl
theorem evN_take_len (ins : List Bool) (ns : List Nd) (i : Nat) (hi : i ≤ ns.length) : (evN ins (ns.take i) []).length = i := by
 rw [evN_len, List.length_take]
 simp
 omega
theorem rg_Evaluate (v vI : Value) (r : Rg) (ins : List Bool) (w : World) (hp : Pow w) (hv : RdR w v r) (hok : okR r) (hs : ∀ c ∈ r.1, SqC c) (hI : RdK Kd.bool w vI ins) (hl : ins.length = r.1.length) :
  Calls Tryz.prog 43 #[v, vI] w fun e w' => e = .returned (.tuple #[.bool (lastB (evN ins r.2 [])), .int .i64 0]) ∧ Below w.heap.size w w' := by
 have V := fun W hp hv => rg_Valid v r W hp hv hok hs
 have hv' := hv
 obtain ⟨cs, ns⟩ := r
 obtain ⟨u, n, rfl, ⟨A, c, rfl, hc, hq⟩, ⟨B, d, rfl, hd, hn⟩⟩ := hv
 have hnd := hok.nd
 have hnn := hok.nn
 dsimp only at *
 obtain ⟨I, ic, rfl, hic, hiq⟩ := hI
 have HI0 : RdK Kd.bool w (.slice I ins.length ic) ins := ⟨I, ic, rfl, hic, hiq⟩
 rw [hl] at HI0 ⊢
 have HL := Aside0.mk hl
 have NN := Aside0.mk hnd
 have k0 := Blk.new w #[.slice A cs.length c, .slice B ns.length d] 42
 have hB0 : Below w.heap.size w (w.alloc (.cells #[.slice A cs.length c, .slice B ns.length d] 42)) := bZa (Below.refl _ _) _
 clear hok hs hnd hl hic hiq
 go_enter Tryz.func43, Tryz.ntmps43
 go_wp2_with (go_at_call 40; refine (V _ (hp.below hB0) (hv'.below hB0)).mono ?_; clear V; rintro e w2 ⟨rfl, hb2⟩; have hB2 := bZs hB0 hb2; have K0 := k0.below hb2; have c0 := K0.cell 0; have c1 := K0.cell 1; have K0b := (K0.alloc (.cells #[.nilFunc, .func (.func 104) #[] #[], .func (.func 105) #[] #[], .func (.func 106) #[] #[], .func (.func 107) #[] #[]] 162)).alloc (.cells #[.slice I cs.length ic, .slice none 0 0] 164); have K1b := (Blk.new w2 #[.nilFunc, .func (.func 104) #[] #[], .func (.func 105) #[] #[], .func (.func 106) #[] #[], .func (.func 107) #[] #[]] 162).alloc (.cells #[.slice I cs.length ic, .slice none 0 0] 164); have K2b := Blk.new (w2.alloc (.cells #[.nilFunc, .func (.func 104) #[] #[], .func (.func 105) #[] #[], .func (.func 106) #[] #[], .func (.func 107) #[] #[]] 162)) #[.slice I cs.length ic, .slice none 0 0] 164; rw [World.size_alloc] at K2b; have hB2b := bZa (bZa hB2 (.cells #[.nilFunc, .func (.func 104) #[] #[], .func (.func 105) #[] #[], .func (.func 106) #[] #[], .func (.func 107) #[] #[]] 162)) (.cells #[.slice I cs.length ic, .slice none 0 0] 164); have c1b := K0b.cell 1)
 have HIb := (HI0.below hB2b)
 have hs1 : w.heap.size < w2.heap.size := K0.lt
 generalize hg1 : w2.heap.size = g1 at *
 generalize hw3 : (w2.alloc (.cells #[.nilFunc, .func (.func 104) #[] #[], .func (.func 105) #[] #[], .func (.func 106) #[] #[], .func (.func 107) #[] #[]] 162)).alloc (.cells #[.slice I cs.length ic, .slice none 0 0] 164) = w3 at *
 obtain ⟨g2, hg2⟩ : ∃ g2, g1 + 1 = g2 := ⟨_, rfl⟩
 rw [hg2] at K2b ⊢
 generalize Value.slice I cs.length ic = vI at *
 have hn0 := Aside0.mk (show w.heap.size ≠ g2 by omega)
 have hn1 := Aside0.mk (show g1 ≠ g2 by omega)
 have hn2 := Aside0.mk (show w.heap.size ≤ g2 by omega)
 clear hs1
 go_loopg [29, 8] ns.length (fun m v29 v8 w' => ∃ (i : Nat) (vN : Value), v29 = .int .i64 i ∧ i + m = ns.length ∧ v8 = .bool (lastB (evN ins (ns.take i) [])) ∧ Blk w' w.heap.size #[.slice A cs.length c, .slice B ns.length d] 42 ∧ Blk w' g1 #[.nilFunc, .func (.func 104) #[] #[], .func (.func 105) #[] #[], .func (.func 106) #[] #[], .func (.func 107) #[] #[]] 162 ∧ Blk w' g2 #[vI, vN] 164 ∧ OwnK Kd.bool 4 w' w.heap.size vN (evN ins (ns.take i) []) ∧ Below w.heap.size w w')
 case atStart => exact ⟨0, _, rfl, by omega, rfl, K0b, K1b, K2b, OwnK.nil _ _ _ _, hB2b⟩
 clear K0b K1b K2b hB2b c0 c1 c1b K0 hB2
 obtain ⟨i, vN, rfl, hi, hv8, k0, k1, k2, HOV, HB⟩ := hrel
 obtain ⟨b8, hb8⟩ : ∃ b, lastB (evN ins (ns.take i) []) = b := ⟨_, rfl⟩
 rw [hb8] at hv8
 subst hv8
 have HB8 := Aside0.mk hb8
 clear hb8
 cases gk with
 | zero =>
  have hie : i = ns.length := by omega
  have hlt : decide ((i : Int) < (ns.length : Int)) = false := decide_eq_false (by omega)
  have HIE := Aside0.mk hie
  clear hie
  go_wp2
  go_ret2
  have e8 := HB8.out
  rw [HIE.out, List.take_length] at e8
  exact ⟨by rw [e8]; rfl, HB⟩
 | succ m =>
  have hA : (0 : Int) ≤ (i : Int) := Int.natCast_nonneg i
  have hA2 : (i : Int) < (ns.length : Int) := by omega
  obtain ⟨bd, rfl, hx0, hx1⟩ := flat_at hn (0, 0, 0, 0) (i : Int) hA hA2
  have d0 := hx0 _ rfl
  have d1 := hx1 1 _ (by omega) rfl
  have d2 := hx1 2 _ (by omega) rfl
  have d3 := hx1 3 _ (by omega) rfl
  rw [Int.toNat_natCast] at d0 d1 d2 d3
  clear hx0 hx1
  have c0 := pZc HB d0
  have c1 := pZc HB d1
  have c2 := pZc HB d2
  have c3 := pZc HB d3
  clear d0 d1 d2 d3
  clear hA hA2
  have hlt : ((i : Int) < (ns.length : Int)) = True := eq_true (by omega)
  have h0 : (0 ≤ (i : Int)) = True := eq_true (by omega)
  have hgt : ns[i]? = some (ns.getD i (0, 0, 0, 0)) := by
   rw [List.getD_eq_getElem?_getD, List.getElem?_eq_getElem (show i < ns.length by omega)]
   rfl
  have hi120 : i ≤ 120 := by omega
  have hin : i < ns.length := by omega
  have OK := okNds_get NN.out hgt
  rw [Nat.zero_add] at OK
  have TK := evN_take ins ns i (by omega)
  have VL := evN_take_len ins ns i (by omega)
  clear HB8
  clear hgt
  generalize ns.getD i (0, 0, 0, 0) = e at *
  generalize evN ins (ns.take i) [] = vs at *
  obtain ⟨p, x, l, r⟩ := e
  dsimp only at c0 c1 c2 c3 OK
  have HT := Aside0.mk TK
  have HVL := Aside0.mk (show vs.length ≤ 120 from by rw [VL]; exact hi120)
  have hIL := HL.out
  have him := Aside0.mk (show i + 1 + m = ns.length by omega)
  have hw : wrap64 ((i : Int) + 1) = ((i + 1 : Nat) : Int) := by unfold wrap64; omega
  rcases OK with ⟨hp1, hx0, hx1, hl, hr⟩ | ⟨hp1, hx, hl0, hl1, hr0, hr1⟩
  ·dsimp only at *
   subst hp1 hl hr
   rw [← hIL] at hx1
   clear hIL TK VL
   have DV : ndV ins vs (1, x, 0, 0) = (ins.getD x.toNat false) := by simp [ndV]
   obtain ⟨bv, hbv⟩ : ∃ bv, (ins.getD x.toNat false) = bv := ⟨_, rfl⟩
   have hB1 := bZa HB (.cells #[.int .i64 1, .int .i64 x, .int .i64 0, .int .i64 0] 93)
   have k3 := Blk.new wr #[.int .i64 1, .int .i64 x, .int .i64 0, .int .i64 0] 93
   replace k0 := k0.alloc (.cells #[.int .i64 1, .int .i64 x, .int .i64 0, .int .i64 0] 93)
   replace k1 := k1.alloc (.cells #[.int .i64 1, .int .i64 x, .int .i64 0, .int .i64 0] 93)
   replace k2 := k2.alloc (.cells #[.int .i64 1, .int .i64 x, .int .i64 0, .int .i64 0] 93)
   replace HOV := HOV.alloc (.cells #[.int .i64 1, .int .i64 x, .int .i64 0, .int .i64 0] 93)
   have HI := HI0.below hB1
   have HV := HOV.rd
   go_wp2
   generalize hw4 : wr.alloc (.cells #[.int .i64 1, .int .i64 x, .int .i64 0, .int .i64 0] 93) = w4 at *
   generalize hg3 : wr.heap.size = g3 at *
   clear hw4 hg3 c0 c1 c2 c3
   have CN : ∀ W, Below w4.drew.heap.size w4.drew W → Calls Tryz.prog 104 #[.pointer (some ⟨g2, 0, none⟩), .agg #[.int .i64 1, .int .i64 x, .int .i64 0, .int .i64 0]] W fun e w' => e = .returned (.bool bv) ∧ Below W.heap.size W w' := fun W hW => hbv ▸ rg_leaf g2 vI vN ins 1 x 0 0 W (k2.drew.below hW) (HI.drew.below hW) hx0 hx1
   rw [hbv] at DV
   clear hbv
   refine rZu (fun _ => false) (fun W => Below w4.drew.heap.size w4.drew W) (by kernel_rfl) (cZb _) (Below.refl _ _) ?_
   apply wpU_e 0 33
   refine wpU_f 1 34 (h1 := by intro W hW; have hC := k3.drew.below hW; have e0 := hC.cell 0; have e1 := hC.cell 1; have e2 := hC.cell 2; have e3 := hC.cell 3; clear hC; have e4 := (k1.drew.below hW).cell 1; go_simp; try rfl) (h3 := ?_)
   refine wpU_f 2 35 (h1 := by intro W hW; have hC := k3.drew.below hW; have e0 := hC.cell 0; have e1 := hC.cell 1; have e2 := hC.cell 2; have e3 := hC.cell 3; clear hC; have e4 := (k1.drew.below hW).cell 1; go_simp; try rfl) (h3 := ?_)
   refine wpU_f 3 36 (h1 := by intro W hW; have hC := k3.drew.below hW; have e0 := hC.cell 0; have e1 := hC.cell 1; have e2 := hC.cell 2; have e3 := hC.cell 3; clear hC; have e4 := (k1.drew.below hW).cell 1; go_simp; try rfl) (h3 := ?_)
   apply wpU_e 4 37
   refine wpU_f 5 38 (h1 := by intro W hW; have hC := k3.drew.below hW; have e0 := hC.cell 0; have e1 := hC.cell 1; have e2 := hC.cell 2; have e3 := hC.cell 3; clear hC; have e4 := (k1.drew.below hW).cell 1; go_simp; try rfl) (h3 := ?_)
   refine wpU_ca 6 39 Tryz.func104 (fun W hW => CN W hW) ?_
   refine wpU_ac ?_
   apply wpU_e 7 8
   refine wpU_done (by kernel_rfl) (fun W1 hW1 => ?_) _
   go_simp
   have hB3 := bZs (bZd hB1) hW1
   have q0 := k0.drew.below hW1
   have q1 := k1.drew.below hW1
   have q2 := k2.drew.below hW1
   have HV2 := HOV.drew.below hW1
   have z1 : W1.cell? ⟨g2, 1, none⟩ = some vN := q2.cell 1
   have z2 := q2.frozen 1
   go_wp2_with (at_builtin; refine appBo (w0 := w) w.heap.size (.tmp 44) (.tmp 46) 96 rfl rfl Tryz.underlying96 vN vs bv rfl rfl HV2 hB3 (bZz hB3) HVL.out ?_; intro vN1 w5 HO5 HB5 HG5; obtain ⟨A5, c5, rfl⟩ := Kd.R_slice HO5; have q3 := q2.kept HG5 (HV2.not_blk q2 (by decide)); have z3 : w5.cell? ⟨g2, 1, none⟩ = some vN := q3.cell 1; have z4 := q3.frozen 1)
   go_roundg m
   case measure => omega
   case rel =>
    refine ⟨i + 1, _, rfl, him.out, ?_, (q0.kept HG5 (HV2.not_blk q0 (by decide))).far (p := ⟨g2, 1, none⟩) hn0.out _, (q1.kept HG5 (HV2.not_blk q1 (by decide))).far (p := ⟨g2, 1, none⟩) hn1.out _, q3.set 1 _, ?_, bZe HB5 hn2.out⟩
    ·rw [HT.out, DV, lastB_snoc]
    ·rw [HT.out, DV]
     have HO6 := HO5.set q3 (by decide) 1 (.slice A5 (vs.length + 1) c5)
     rw [List.length_append, List.length_singleton] at HO6
     exact HO6
  ·dsimp only at *
   subst hx
   rw [← VL] at hl1 hr1
   clear hIL TK VL
   rcases hp1 with rfl | rfl | rfl
   ·have DV : ndV ins vs (2, 0, l, r) = (vs.getD l.toNat false || vs.getD r.toNat false) := by simp [ndV]
    obtain ⟨bv, hbv⟩ : ∃ bv, (vs.getD l.toNat false || vs.getD r.toNat false) = bv := ⟨_, rfl⟩
    have hB1 := bZa HB (.cells #[.int .i64 2, .int .i64 0, .int .i64 l, .int .i64 r] 93)
    have k3 := Blk.new wr #[.int .i64 2, .int .i64 0, .int .i64 l, .int .i64 r] 93
    replace k0 := k0.alloc (.cells #[.int .i64 2, .int .i64 0, .int .i64 l, .int .i64 r] 93)
    replace k1 := k1.alloc (.cells #[.int .i64 2, .int .i64 0, .int .i64 l, .int .i64 r] 93)
    replace k2 := k2.alloc (.cells #[.int .i64 2, .int .i64 0, .int .i64 l, .int .i64 r] 93)
    replace HOV := HOV.alloc (.cells #[.int .i64 2, .int .i64 0, .int .i64 l, .int .i64 r] 93)
    have HI := HI0.below hB1
    have HV := HOV.rd
    go_wp2
    generalize hw4 : wr.alloc (.cells #[.int .i64 2, .int .i64 0, .int .i64 l, .int .i64 r] 93) = w4 at *
    generalize hg3 : wr.heap.size = g3 at *
    clear hw4 hg3 c0 c1 c2 c3
    have CN : ∀ W, Below w4.drew.heap.size w4.drew W → Calls Tryz.prog 105 #[.pointer (some ⟨g2, 0, none⟩), .agg #[.int .i64 2, .int .i64 0, .int .i64 l, .int .i64 r]] W fun e w' => e = .returned (.bool bv) ∧ Below W.heap.size W w' := fun W hW => hbv ▸ rg_or g2 vI vN vs 2 0 l r W (k2.drew.below hW) (HV.drew.below hW) hl0 hl1 hr0 hr1
    rw [hbv] at DV
    clear hbv
    refine rZu (fun _ => false) (fun W => Below w4.drew.heap.size w4.drew W) (by kernel_rfl) (cZb _) (Below.refl _ _) ?_
    apply wpU_e 0 33
    refine wpU_f 1 34 (h1 := by intro W hW; have hC := k3.drew.below hW; have e0 := hC.cell 0; have e1 := hC.cell 1; have e2 := hC.cell 2; have e3 := hC.cell 3; clear hC; have e4 := (k1.drew.below hW).cell 2; go_simp; try rfl) (h3 := ?_)
    refine wpU_f 2 35 (h1 := by intro W hW; have hC := k3.drew.below hW; have e0 := hC.cell 0; have e1 := hC.cell 1; have e2 := hC.cell 2; have e3 := hC.cell 3; clear hC; have e4 := (k1.drew.below hW).cell 2; go_simp; try rfl) (h3 := ?_)
    refine wpU_f 3 36 (h1 := by intro W hW; have hC := k3.drew.below hW; have e0 := hC.cell 0; have e1 := hC.cell 1; have e2 := hC.cell 2; have e3 := hC.cell 3; clear hC; have e4 := (k1.drew.below hW).cell 2; go_simp; try rfl) (h3 := ?_)
    apply wpU_e 4 37
    refine wpU_f 5 38 (h1 := by intro W hW; have hC := k3.drew.below hW; have e0 := hC.cell 0; have e1 := hC.cell 1; have e2 := hC.cell 2; have e3 := hC.cell 3; clear hC; have e4 := (k1.drew.below hW).cell 2; go_simp; try rfl) (h3 := ?_)
    refine wpU_ca 6 39 Tryz.func105 (fun W hW => CN W hW) ?_
    refine wpU_ac ?_
    apply wpU_e 7 8
    refine wpU_done (by kernel_rfl) (fun W1 hW1 => ?_) _
    go_simp
    have hB3 := bZs (bZd hB1) hW1
    have q0 := k0.drew.below hW1
    have q1 := k1.drew.below hW1
    have q2 := k2.drew.below hW1
    have HV2 := HOV.drew.below hW1
    have z1 : W1.cell? ⟨g2, 1, none⟩ = some vN := q2.cell 1
    have z2 := q2.frozen 1
    go_wp2_with (at_builtin; refine appBo (w0 := w) w.heap.size (.tmp 44) (.tmp 46) 96 rfl rfl Tryz.underlying96 vN vs bv rfl rfl HV2 hB3 (bZz hB3) HVL.out ?_; intro vN1 w5 HO5 HB5 HG5; obtain ⟨A5, c5, rfl⟩ := Kd.R_slice HO5; have q3 := q2.kept HG5 (HV2.not_blk q2 (by decide)); have z3 : w5.cell? ⟨g2, 1, none⟩ = some vN := q3.cell 1; have z4 := q3.frozen 1)
    go_roundg m
    case measure => omega
    case rel =>
     refine ⟨i + 1, _, rfl, him.out, ?_, (q0.kept HG5 (HV2.not_blk q0 (by decide))).far (p := ⟨g2, 1, none⟩) hn0.out _, (q1.kept HG5 (HV2.not_blk q1 (by decide))).far (p := ⟨g2, 1, none⟩) hn1.out _, q3.set 1 _, ?_, bZe HB5 hn2.out⟩
     ·rw [HT.out, DV, lastB_snoc]
     ·rw [HT.out, DV]
      have HO6 := HO5.set q3 (by decide) 1 (.slice A5 (vs.length + 1) c5)
      rw [List.length_append, List.length_singleton] at HO6
      exact HO6
   ·have DV : ndV ins vs (3, 0, l, r) = (vs.getD l.toNat false && vs.getD r.toNat false) := by simp [ndV]
    obtain ⟨bv, hbv⟩ : ∃ bv, (vs.getD l.toNat false && vs.getD r.toNat false) = bv := ⟨_, rfl⟩
    have hB1 := bZa HB (.cells #[.int .i64 3, .int .i64 0, .int .i64 l, .int .i64 r] 93)
    have k3 := Blk.new wr #[.int .i64 3, .int .i64 0, .int .i64 l, .int .i64 r] 93
    replace k0 := k0.alloc (.cells #[.int .i64 3, .int .i64 0, .int .i64 l, .int .i64 r] 93)
    replace k1 := k1.alloc (.cells #[.int .i64 3, .int .i64 0, .int .i64 l, .int .i64 r] 93)
    replace k2 := k2.alloc (.cells #[.int .i64 3, .int .i64 0, .int .i64 l, .int .i64 r] 93)
    replace HOV := HOV.alloc (.cells #[.int .i64 3, .int .i64 0, .int .i64 l, .int .i64 r] 93)
    have HI := HI0.below hB1
    have HV := HOV.rd
    go_wp2
    generalize hw4 : wr.alloc (.cells #[.int .i64 3, .int .i64 0, .int .i64 l, .int .i64 r] 93) = w4 at *
    generalize hg3 : wr.heap.size = g3 at *
    clear hw4 hg3 c0 c1 c2 c3
    have CN : ∀ W, Below w4.drew.heap.size w4.drew W → Calls Tryz.prog 106 #[.pointer (some ⟨g2, 0, none⟩), .agg #[.int .i64 3, .int .i64 0, .int .i64 l, .int .i64 r]] W fun e w' => e = .returned (.bool bv) ∧ Below W.heap.size W w' := fun W hW => hbv ▸ rg_and g2 vI vN vs 3 0 l r W (k2.drew.below hW) (HV.drew.below hW) hl0 hl1 hr0 hr1
    rw [hbv] at DV
    clear hbv
    refine rZu (fun _ => false) (fun W => Below w4.drew.heap.size w4.drew W) (by kernel_rfl) (cZb _) (Below.refl _ _) ?_
    apply wpU_e 0 33
    refine wpU_f 1 34 (h1 := by intro W hW; have hC := k3.drew.below hW; have e0 := hC.cell 0; have e1 := hC.cell 1; have e2 := hC.cell 2; have e3 := hC.cell 3; clear hC; have e4 := (k1.drew.below hW).cell 3; go_simp; try rfl) (h3 := ?_)
    refine wpU_f 2 35 (h1 := by intro W hW; have hC := k3.drew.below hW; have e0 := hC.cell 0; have e1 := hC.cell 1; have e2 := hC.cell 2; have e3 := hC.cell 3; clear hC; have e4 := (k1.drew.below hW).cell 3; go_simp; try rfl) (h3 := ?_)
    refine wpU_f 3 36 (h1 := by intro W hW; have hC := k3.drew.below hW; have e0 := hC.cell 0; have e1 := hC.cell 1; have e2 := hC.cell 2; have e3 := hC.cell 3; clear hC; have e4 := (k1.drew.below hW).cell 3; go_simp; try rfl) (h3 := ?_)
    apply wpU_e 4 37
    refine wpU_f 5 38 (h1 := by intro W hW; have hC := k3.drew.below hW; have e0 := hC.cell 0; have e1 := hC.cell 1; have e2 := hC.cell 2; have e3 := hC.cell 3; clear hC; have e4 := (k1.drew.below hW).cell 3; go_simp; try rfl) (h3 := ?_)
    refine wpU_ca 6 39 Tryz.func106 (fun W hW => CN W hW) ?_
    refine wpU_ac ?_
    apply wpU_e 7 8
    refine wpU_done (by kernel_rfl) (fun W1 hW1 => ?_) _
    go_simp
    have hB3 := bZs (bZd hB1) hW1
    have q0 := k0.drew.below hW1
    have q1 := k1.drew.below hW1
    have q2 := k2.drew.below hW1
    have HV2 := HOV.drew.below hW1
    have z1 : W1.cell? ⟨g2, 1, none⟩ = some vN := q2.cell 1
    have z2 := q2.frozen 1
    go_wp2_with (at_builtin; refine appBo (w0 := w) w.heap.size (.tmp 44) (.tmp 46) 96 rfl rfl Tryz.underlying96 vN vs bv rfl rfl HV2 hB3 (bZz hB3) HVL.out ?_; intro vN1 w5 HO5 HB5 HG5; obtain ⟨A5, c5, rfl⟩ := Kd.R_slice HO5; have q3 := q2.kept HG5 (HV2.not_blk q2 (by decide)); have z3 : w5.cell? ⟨g2, 1, none⟩ = some vN := q3.cell 1; have z4 := q3.frozen 1)
    go_roundg m
    case measure => omega
    case rel =>
     refine ⟨i + 1, _, rfl, him.out, ?_, (q0.kept HG5 (HV2.not_blk q0 (by decide))).far (p := ⟨g2, 1, none⟩) hn0.out _, (q1.kept HG5 (HV2.not_blk q1 (by decide))).far (p := ⟨g2, 1, none⟩) hn1.out _, q3.set 1 _, ?_, bZe HB5 hn2.out⟩
     ·rw [HT.out, DV, lastB_snoc]
     ·rw [HT.out, DV]
      have HO6 := HO5.set q3 (by decide) 1 (.slice A5 (vs.length + 1) c5)
      rw [List.length_append, List.length_singleton] at HO6
      exact HO6
   ·have DV : ndV ins vs (4, 0, l, r) = (vs.getD l.toNat false && !vs.getD r.toNat false) := by simp [ndV]
    obtain ⟨bv, hbv⟩ : ∃ bv, (vs.getD l.toNat false && !vs.getD r.toNat false) = bv := ⟨_, rfl⟩
    have hB1 := bZa HB (.cells #[.int .i64 4, .int .i64 0, .int .i64 l, .int .i64 r] 93)
    have k3 := Blk.new wr #[.int .i64 4, .int .i64 0, .int .i64 l, .int .i64 r] 93
    replace k0 := k0.alloc (.cells #[.int .i64 4, .int .i64 0, .int .i64 l, .int .i64 r] 93)
    replace k1 := k1.alloc (.cells #[.int .i64 4, .int .i64 0, .int .i64 l, .int .i64 r] 93)
    replace k2 := k2.alloc (.cells #[.int .i64 4, .int .i64 0, .int .i64 l, .int .i64 r] 93)
    replace HOV := HOV.alloc (.cells #[.int .i64 4, .int .i64 0, .int .i64 l, .int .i64 r] 93)
    have HI := HI0.below hB1
    have HV := HOV.rd
    go_wp2
    generalize hw4 : wr.alloc (.cells #[.int .i64 4, .int .i64 0, .int .i64 l, .int .i64 r] 93) = w4 at *
    generalize hg3 : wr.heap.size = g3 at *
    clear hw4 hg3 c0 c1 c2 c3
    have CN : ∀ W, Below w4.drew.heap.size w4.drew W → Calls Tryz.prog 107 #[.pointer (some ⟨g2, 0, none⟩), .agg #[.int .i64 4, .int .i64 0, .int .i64 l, .int .i64 r]] W fun e w' => e = .returned (.bool bv) ∧ Below W.heap.size W w' := fun W hW => hbv ▸ rg_less g2 vI vN vs 4 0 l r W (k2.drew.below hW) (HV.drew.below hW) hl0 hl1 hr0 hr1
    rw [hbv] at DV
    clear hbv
    refine rZu (fun _ => false) (fun W => Below w4.drew.heap.size w4.drew W) (by kernel_rfl) (cZb _) (Below.refl _ _) ?_
    apply wpU_e 0 33
    refine wpU_f 1 34 (h1 := by intro W hW; have hC := k3.drew.below hW; have e0 := hC.cell 0; have e1 := hC.cell 1; have e2 := hC.cell 2; have e3 := hC.cell 3; clear hC; have e4 := (k1.drew.below hW).cell 4; go_simp; try rfl) (h3 := ?_)
    refine wpU_f 2 35 (h1 := by intro W hW; have hC := k3.drew.below hW; have e0 := hC.cell 0; have e1 := hC.cell 1; have e2 := hC.cell 2; have e3 := hC.cell 3; clear hC; have e4 := (k1.drew.below hW).cell 4; go_simp; try rfl) (h3 := ?_)
    refine wpU_f 3 36 (h1 := by intro W hW; have hC := k3.drew.below hW; have e0 := hC.cell 0; have e1 := hC.cell 1; have e2 := hC.cell 2; have e3 := hC.cell 3; clear hC; have e4 := (k1.drew.below hW).cell 4; go_simp; try rfl) (h3 := ?_)
    apply wpU_e 4 37
    refine wpU_f 5 38 (h1 := by intro W hW; have hC := k3.drew.below hW; have e0 := hC.cell 0; have e1 := hC.cell 1; have e2 := hC.cell 2; have e3 := hC.cell 3; clear hC; have e4 := (k1.drew.below hW).cell 4; go_simp; try rfl) (h3 := ?_)
    refine wpU_ca 6 39 Tryz.func107 (fun W hW => CN W hW) ?_
    refine wpU_ac ?_
    apply wpU_e 7 8
    refine wpU_done (by kernel_rfl) (fun W1 hW1 => ?_) _
    go_simp
    have hB3 := bZs (bZd hB1) hW1
    have q0 := k0.drew.below hW1
    have q1 := k1.drew.below hW1
    have q2 := k2.drew.below hW1
    have HV2 := HOV.drew.below hW1
    have z1 : W1.cell? ⟨g2, 1, none⟩ = some vN := q2.cell 1
    have z2 := q2.frozen 1
    go_wp2_with (at_builtin; refine appBo (w0 := w) w.heap.size (.tmp 44) (.tmp 46) 96 rfl rfl Tryz.underlying96 vN vs bv rfl rfl HV2 hB3 (bZz hB3) HVL.out ?_; intro vN1 w5 HO5 HB5 HG5; obtain ⟨A5, c5, rfl⟩ := Kd.R_slice HO5; have q3 := q2.kept HG5 (HV2.not_blk q2 (by decide)); have z3 : w5.cell? ⟨g2, 1, none⟩ = some vN := q3.cell 1; have z4 := q3.frozen 1)
    go_roundg m
    case measure => omega
    case rel =>
     refine ⟨i + 1, _, rfl, him.out, ?_, (q0.kept HG5 (HV2.not_blk q0 (by decide))).far (p := ⟨g2, 1, none⟩) hn0.out _, (q1.kept HG5 (HV2.not_blk q1 (by decide))).far (p := ⟨g2, 1, none⟩) hn1.out _, q3.set 1 _, ?_, bZe HB5 hn2.out⟩
     ·rw [HT.out, DV, lastB_snoc]
     ·rw [HT.out, DV]
      have HO6 := HO5.set q3 (by decide) 1 (.slice A5 (vs.length + 1) c5)
      rw [List.length_append, List.length_singleton] at HO6
      exact HO6
end Go.Proofs.YtociicfjhgfgpaaGreatDoor

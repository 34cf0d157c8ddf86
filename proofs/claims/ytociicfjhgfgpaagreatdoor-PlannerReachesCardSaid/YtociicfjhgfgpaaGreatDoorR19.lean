/- A region that draws its order: each early operation yields one value in every world of a class, and the world only grows: whatever the order, the operations may be taken in one order; what is new may . -/
import Derived.Test.YtociicfjhgfgpaaGreatDoorR13
import Derived.KernelRfl
import Derived.Test.YtociicfjhgfgpaaGreatDoorR02
set_option linter.unusedVariables false
set_option linter.unusedSimpArgs false
namespace Go.Proofs.YtociicfjhgfgpaaGreatDoor
open Go Go.RowKit Go.Proofs.YtociicfjhgfgpaaGreatDoorW.PrintWords
variable {P : Program} {ops : Array Oper} {Q : Exit → Act → World → Prop} {md : Region.Mode} {ex : Nat → Bool}
def Closed (C : World → Prop) : Prop := ∀ w w', C w → Below w.heap.size w w' → C w'
theorem cZb (w0 : World) : Closed (fun W => Below w0.heap.size w0 W) := fun _ _ h k => bZs h k
theorem closed_and {C D : World → Prop} (h : Closed C) (k : Closed D) : Closed (fun W => C W ∧ D W) := fun w w' hc hb => ⟨h w w' hc.1 hb, k w w' hc.2 hb⟩
theorem closed_blk (g : Nat) (cs : Array Value) (t : TypeId) : Closed (fun W => Blk W g cs t) := fun _ _ h hb => h.below hb
def YieldsG (P : Program) (ops : Array Oper) (C : World → Prop) (o : Oper) (v : Value) (a : Act) : Prop :=
 (Region.wanted o (yielded ops a.tmps) = true ∧ ((∀ w, C w → (execOp a.eval o).run P w = .ok (.value v) w) ∨ ∃ f args, ∀ w, C w → (execOp a.eval o).run P w = .ok (.enter f args) w ∧ Calls P f args w fun e w' => e = .returned v ∧ Below w.heap.size w w')) ∨
 (Region.wanted o (yielded ops a.tmps) = false ∧ v = undef)
def YieldsN (P : Program) (ops : Array Oper) (o : Oper) (fv : Nat → Value) (cs : Array Value) (t : TypeId) (a : Act) : Prop :=
 Region.wanted o (yielded ops a.tmps) = true ∧ ∀ w, (execOp a.eval o).run P w = .ok (.value (fv w.heap.size)) (w.alloc (.cells cs t))
theorem YieldsG.of_same {C : World → Prop} {o : Oper} {v : Value} {a a' : Act} (hy : YieldsG P ops C o v a) (he : execOp a'.eval o = execOp a.eval o)
  (hw : Region.wanted o (yielded ops a'.tmps) = Region.wanted o (yielded ops a.tmps)) : YieldsG P ops C o v a' := by
 unfold YieldsG at *
 rw [he, hw]
 exact hy
theorem YieldsN.of_same {o : Oper} {fv : Nat → Value} {cs : Array Value} {t : TypeId} {a a' : Act} (hy : YieldsN P ops o fv cs t a) (he : execOp a'.eval o = execOp a.eval o)
  (hw : Region.wanted o (yielded ops a'.tmps) = Region.wanted o (yielded ops a.tmps)) : YieldsN P ops o fv cs t a' := by
 unfold YieldsN at *
 rw [he, hw]
 exact hy
theorem YieldsG.weak {C D : World → Prop} {o : Oper} {v : Value} {a : Act} (hy : YieldsG P ops C o v a) (h : ∀ w, D w → C w) : YieldsG P ops D o v a := by
 rcases hy with ⟨h0, h1 | ⟨f, args, h1⟩⟩ | h1
 ·exact .inl ⟨h0, .inl fun w hw => h1 w (h w hw)⟩
 ·exact .inl ⟨h0, .inr ⟨f, args, fun w hw => h1 w (h w hw)⟩⟩
 ·exact .inr h1
def wpU (P : Program) (md : Region.Mode) (ops : Array Oper) (Q : Exit → Act → World → Prop) (ex : Nat → Bool) : Nat → (World → Prop) → Array Bool → Act → Prop
 | 0, C, listed, a => Region.ready md ops listed = [] ∧ ∀ w, C w → Q .normal a w
 | fuel + 1, C, listed, a =>
  (Region.ready md ops listed = [] → ∀ w, C w → Q .normal a w) ∧
  ∀ i ∈ Region.ready md ops listed,
   (ex i = true ∧ ∀ w, C w → wpOp P ops Q i (wpAny P md ops Q fuel (listed.setIfInBounds i true)) a w) ∨
   (∃ o v, ops[i]? = some o ∧ YieldsG P ops C o v a ∧ wpU P md ops Q ex fuel C (listed.setIfInBounds i true) (a.put o.dst v)) ∨
   (∃ (o : Oper) (fv : Nat → Value) (cs : Array Value) (t : TypeId), ops[i]? = some o ∧ YieldsN P ops o fv cs t a ∧ ∀ g, (∃ w, C w ∧ g = w.heap.size) → wpU P md ops Q ex fuel (fun W => C W ∧ Blk W g cs t) (listed.setIfInBounds i true) (a.put o.dst (fv g)))
theorem wpU_sound : ∀ (fuel : Nat) {C : World → Prop} (listed : Array Bool) (a : Act) (w : World), Closed C → C w → wpU P md ops Q ex fuel C listed a → wpAny P md ops Q fuel listed a w
 | 0, _, _, _, w, _, hC, H => ⟨H.1, H.2 w hC⟩
 | fuel + 1, C, listed, a, w, hcl, hC, H => by
  refine ⟨fun hr => H.1 hr w hC, fun i hi => ?_⟩
  rcases H.2 i hi with ⟨_, h1⟩ | ⟨o, v, ho, hy, hr⟩ | ⟨o, fv, cs, t, ho, ⟨hw, hy⟩, hr⟩
  ·exact h1 w hC
  ·unfold wpOp
   simp only [ho]
   rcases hy with ⟨hw, h2 | ⟨f, args, h2⟩⟩ | ⟨hw, rfl⟩
   ·simp only [hw, if_true, Oper.wp, h2 w hC, Oper.upon]
    exact .inl (wpU_sound fuel _ _ w hcl hC hr)
   ·simp only [hw, if_true, Oper.wp, (h2 w hC).1, Oper.upon]
    refine .inl (Calls.mono (h2 w hC).2 ?_)
    rintro e w' ⟨rfl, hb⟩
    exact wpU_sound fuel _ _ w' hcl (hcl w w' hC hb) hr
   ·simp only [hw, Bool.false_eq_true, if_false]
    exact wpU_sound fuel _ _ w hcl hC hr
  ·unfold wpOp
   simp only [ho]
   simp only [hw, if_true, Oper.wp, hy w, Oper.upon]
   exact .inl (wpU_sound fuel _ _ _ (closed_and hcl (closed_blk _ cs t)) ⟨hcl w _ hC (bZa (Below.refl _ _) _), Blk.new w cs t⟩ (hr _ ⟨w, hC, rfl⟩))
theorem rZu {id : Nat} {a : Act} {w : World} (ex : Nat → Bool) (C : World → Prop) (hm : P.follows .mixedOrders = true) (hcl : Closed C) (hC : C w.drew)
  (h : wpU P .any ops Q ex ops.size C (Array.replicate ops.size false) a) : (Code.region id ops true).wp P Q a w :=
 wp_region_any hm (wpU_sound _ _ _ _ hcl hC h)
theorem wpU_weak : ∀ (fuel : Nat) {C D : World → Prop} (listed : Array Bool) (a : Act), (∀ w, D w → C w) → wpU P md ops Q ex fuel C listed a → wpU P md ops Q ex fuel D listed a
 | 0, _, _, _, _, h, H => ⟨H.1, fun w hw => H.2 w (h w hw)⟩
 | fuel + 1, _, _, listed, a, h, H => by
  refine ⟨fun he w hw => H.1 he w (h w hw), fun i hi => ?_⟩
  rcases H.2 i hi with ⟨hx, h1⟩ | ⟨o, v, ho, hy, hr⟩ | ⟨o, fv, cs, t, ho, hy, hr⟩
  ·exact .inl ⟨hx, fun w hw => h1 w (h w hw)⟩
  ·exact .inr (.inl ⟨o, v, ho, hy.weak h, wpU_weak fuel _ _ h hr⟩)
  ·exact .inr (.inr ⟨o, fv, cs, t, ho, hy, fun g ⟨w, hw, e⟩ => wpU_weak fuel _ _ (fun w hw => ⟨h w hw.1, hw.2⟩) (hr g ⟨w, h w hw, e⟩)⟩)
def waits (md : Region.Mode) (ops : Array Oper) : Nat → Nat → Nat → Bool
 | 0, _, _ => false
 | fuel + 1, j, i => match ops[j]? with
  | some o => o.after.any fun e => Region.binds md e && (e.on == i || waits md ops fuel e.on i)
  | none => false
def lateAll (md : Region.Mode) (ops : Array Oper) (ex : Nat → Bool) (i : Nat) : Bool := !ex i && (List.range ops.size).all fun j => !ex j || waits md ops 12 j i
def downB (md : Region.Mode) (ops : Array Oper) (listed : Array Bool) : Bool := (List.range ops.size).all fun j => !listed.getD j false || match ops[j]? with
 | some o => o.after.all fun e => !Region.binds md e || listed.getD e.on false
 | none => true
def Down (md : Region.Mode) (ops : Array Oper) (listed : Array Bool) : Prop := ∀ j o, ops[j]? = some o → listed.getD j false = true → ∀ e ∈ o.after, Region.binds md e = true → listed.getD e.on false = true
theorem down_of {listed : Array Bool} (h : downB md ops listed = true) : Down md ops listed := by
 intro j o ho hj e he hb
 have h1 := List.all_eq_true.1 h j (List.mem_range.2 (Array.getElem?_eq_some_iff.1 ho).1)
 rw [hj, ho] at h1
 simp only [Bool.not_true, Bool.false_or] at h1
 have h2 := Array.all_eq_true'.1 h1 e he
 rw [hb] at h2
 simpa using h2
theorem waits_listed {listed : Array Bool} (hd : Down md ops listed) {i : Nat} : ∀ (fuel j : Nat) (o : Oper), ops[j]? = some o → (∀ e ∈ o.after, Region.binds md e = true → listed.getD e.on false = true) → waits md ops fuel j i = true → listed.getD i false = true
 | 0, _, _, _, _, h => by simp [waits] at h
 | fuel + 1, j, o, ho, hall, h => by
  unfold waits at h
  rw [ho] at h
  obtain ⟨e, he, hb⟩ := Array.any_eq_true'.1 h
  simp only [Bool.and_eq_true, Bool.or_eq_true, beq_iff_eq] at hb
  have hl := hall e he hb.1
  rcases hb.2 with heq | hw
  ·rwa [heq] at hl
  ·cases hk : ops[e.on]? with
   | none =>
    exfalso
    cases fuel with
    | zero => simp [waits] at hw
    | succ fuel => unfold waits at hw; rw [hk] at hw; cases hw
   | some ok => exact waits_listed hd fuel e.on ok hk (hd e.on ok hk hl) hw
theorem wpU_first {i : Nat} {oi : Oper} {v : Value} (hi : ops[i]? = some oi) (hsel : ∀ (j : Nat) (o : Oper) cs b, ops[j]? = some o → o.op ≠ .select cs b)
  (hex : ∀ j oj, ops[j]? = some oj → ex j = true → waits md ops 12 j i = true) :
  ∀ (fuel : Nat) (C : World → Prop) (listed : Array Bool) (a : Act), Down md ops listed →
   (∀ j oj, ops[j]? = some oj → j ≠ i → listed.getD j true = false → (∀ e ∈ oj.after, Region.binds md e = true → e.on ≠ i) → oi.apart ops oj = true) →
   i ∈ Region.ready md ops listed → YieldsG P ops C oi v a →
   wpU P md ops Q ex fuel C (listed.setIfInBounds i true) (a.put oi.dst v) → wpU P md ops Q ex (fuel + 1) C listed a := by
 intro fuel
 induction fuel with
 | zero =>
  intro C listed a _ _ hr hy H
  refine ⟨fun h => (by rw [h] at hr; cases hr), fun j hj => ?_⟩
  by_cases hji : j = i
  ·subst hji
   exact .inr (.inl ⟨oi, v, hi, hy, H⟩)
  ·have := ready_mono hj hji
   rw [H.1] at this
   cases this
 | succ fuel ih =>
  intro C listed a hdn hfree hr hy H
  refine ⟨fun h => (by rw [h] at hr; cases hr), fun j hj => ?_⟩
  by_cases hji : j = i
  ·subst hji
   exact .inr (.inl ⟨oi, v, hi, hy, H⟩)
  ·obtain ⟨hjun, oj, hoj, hall⟩ := mem_ready.1 hj
   have hnot : ∀ e ∈ oj.after, Region.binds md e = true → e.on ≠ i := fun e he hb heq => by
    have h1 := hall e he hb
    have h0 := (mem_ready.1 hr).1
    rw [heq] at h1
    rcases Nat.lt_or_ge i listed.size with h' | h'
    ·simp [h'] at h0 h1; rw [h0] at h1; cases h1
    ·simp [Array.getElem?_eq_none h'] at h1
   have hap := hfree j oj hoj hji hjun hnot
   obtain ⟨p1, p2, p3⟩ := Oper.apart_spec hap
   have si := fun cs b => hsel i oi cs b hi
   have sj := fun cs b => hsel j oj cs b hoj
   have hfree' : ∀ k ok, ops[k]? = some ok → k ≠ i → (listed.setIfInBounds j true).getD k true = false →
     (∀ e ∈ ok.after, Region.binds md e = true → e.on ≠ i) → oi.apart ops ok = true := fun k ok hk hki hun hno => by
    refine hfree k ok hk hki ?_ hno
    by_cases hjk : j = k
    ·subst hjk; exact hjun
    ·rw [getD_set_ne true hjk] at hun; exact hun
   have hdn' : Down md ops (listed.setIfInBounds j true) := by
    intro k ok hk hkl e he hb
    by_cases hjk : j = k
    ·subst hjk
     obtain rfl : ok = oj := Option.some.inj (hk.symm.trans hoj)
     exact getD_set_true (hall e he hb)
    ·rw [getD_set_ne false hjk] at hkl
     exact getD_set_true (hdn k ok hk hkl e he hb)
   rcases H.2 j (ready_mono hj hji) with ⟨hx, _⟩ | ⟨o, u, ho, hyj, hrj⟩ | ⟨o, fv, cs, t, ho, hyj, hrj⟩
   ·have h1 := waits_listed hdn 12 j oj hoj hall (hex j oj hoj hx)
    have h0 := (mem_ready.1 hr).1
    rcases Nat.lt_or_ge i listed.size with h' | h'
    ·simp [h'] at h0 h1; rw [h0] at h1; cases h1
    ·simp [Array.getElem?_eq_none h'] at h1
   ·obtain rfl : oj = o := Option.some.inj (hoj.symm.trans ho)
    refine .inr (.inl ⟨oj, u, hoj, hyj.of_same (execOp_put oj sj a oi.dst v p1).symm (wanted_put oj a oi.dst v p1).symm, ?_⟩)
    refine ih C _ _ hdn' hfree' (ready_mono hr (Ne.symm hji)) (hy.of_same (execOp_put oi si a oj.dst u p3) (wanted_put oi a oj.dst u p3)) ?_
    rw [Array.setIfInBounds_comm _ _ hji, ← Act.put_comm a v u p2]
    exact hrj
   ·obtain rfl : oj = o := Option.some.inj (hoj.symm.trans ho)
    refine .inr (.inr ⟨oj, fv, cs, t, hoj, hyj.of_same (execOp_put oj sj a oi.dst v p1).symm (wanted_put oj a oi.dst v p1).symm, fun g hg => ?_⟩)
    refine ih _ _ _ hdn' hfree' (ready_mono hr (Ne.symm hji)) ((hy.of_same (execOp_put oi si a oj.dst (fv g) p3) (wanted_put oi a oj.dst (fv g) p3)).weak (fun w h => h.1)) ?_
    rw [Array.setIfInBounds_comm _ _ hji, ← Act.put_comm a v (fv g) p2]
    exact hrj g hg
theorem lateAll_spec {i : Nat} (h : lateAll md ops ex i = true) : ex i = false ∧ ∀ j oj, ops[j]? = some oj → ex j = true → waits md ops 12 j i = true := by
 unfold lateAll at h
 rw [Bool.and_eq_true] at h
 refine ⟨by simpa using h.1, fun j oj hj hx => ?_⟩
 have h1 := List.all_eq_true.1 h.2 j (List.mem_range.2 (Array.getElem?_eq_some_iff.1 hj).1)
 rw [hx] at h1
 simpa using h1
theorem wpU_take {C : World → Prop} {i : Nat} {oi : Oper} {fuel : Nat} {listed : Array Bool} {a : Act} {d : Option Tmp} (hi : ops[i]? = some oi) (hd : oi.dst = d)
  (hs : Region.noSelect ops = true) (hf : Region.free md ops listed i = true) (hr : (Region.ready md ops listed).contains i = true) (hl : (lateAll md ops ex i && downB md ops listed) = true)
  (hw : Region.wanted oi (yielded ops a.tmps) = true)
  (h : ∃ v, (∀ w, C w → (execOp a.eval oi).run P w = .ok (.value v) w) ∧ wpU P md ops Q ex fuel C (listed.setIfInBounds i true) (a.put d v)) : wpU P md ops Q ex (fuel + 1) C listed a := by
 subst hd
 obtain ⟨v, hy, h⟩ := h
 exact wpU_first hi (Region.noSelect_spec hs) (lateAll_spec (Bool.and_eq_true_iff.1 hl).1).2 fuel C listed a (down_of (Bool.and_eq_true_iff.1 hl).2) (Region.free_spec hi hf) (by simpa using hr) (.inl ⟨hw, .inl hy⟩) h
theorem wpU_skip {C : World → Prop} {i : Nat} {oi : Oper} {fuel : Nat} {listed : Array Bool} {a : Act} {d : Option Tmp} (hi : ops[i]? = some oi) (hd : oi.dst = d)
  (hs : Region.noSelect ops = true) (hf : Region.free md ops listed i = true) (hr : (Region.ready md ops listed).contains i = true) (hl : (lateAll md ops ex i && downB md ops listed) = true)
  (hw : Region.wanted oi (yielded ops a.tmps) = false) (h : wpU P md ops Q ex fuel C (listed.setIfInBounds i true) (a.put d undef)) : wpU P md ops Q ex (fuel + 1) C listed a := by
 subst hd
 exact wpU_first hi (Region.noSelect_spec hs) (lateAll_spec (Bool.and_eq_true_iff.1 hl).1).2 fuel C listed a (down_of (Bool.and_eq_true_iff.1 hl).2) (Region.free_spec hi hf) (by simpa using hr) (.inr ⟨hw, rfl⟩) h
theorem wpU_call (v : Value) {C : World → Prop} {i : Nat} {oi : Oper} {fuel : Nat} {listed : Array Bool} {a : Act} {d : Option Tmp} (hi : ops[i]? = some oi) (hd : oi.dst = d)
  (hs : Region.noSelect ops = true) (hf : Region.free md ops listed i = true) (hr : (Region.ready md ops listed).contains i = true) (hl : (lateAll md ops ex i && downB md ops listed) = true)
  (hw : Region.wanted oi (yielded ops a.tmps) = true)
  (h1 : ∃ f args, (∀ w, C w → (execOp a.eval oi).run P w = .ok (.enter f args) w) ∧ ∀ w, C w → Calls P f args w fun e w' => e = .returned v ∧ Below w.heap.size w w')
  (h : wpU P md ops Q ex fuel C (listed.setIfInBounds i true) (a.put d v)) : wpU P md ops Q ex (fuel + 1) C listed a := by
 subst hd
 obtain ⟨f, args, h1, h2⟩ := h1
 exact wpU_first hi (Region.noSelect_spec hs) (lateAll_spec (Bool.and_eq_true_iff.1 hl).1).2 fuel C listed a (down_of (Bool.and_eq_true_iff.1 hl).2) (Region.free_spec hi hf) (by simpa using hr) (.inl ⟨hw, .inr ⟨f, args, fun w hC => ⟨h1 w hC, h2 w hC⟩⟩⟩) h
theorem wpU_ac {C : World → Prop} {fuel : Nat} {listed : Array Bool} {a a2 : Act} (h2 : wpU P md ops Q ex fuel C listed a2) (h1 : a = a2 := by (go_simp; try rfl)) : wpU P md ops Q ex fuel C listed a := h1 ▸ h2
theorem wpU_d (i t : Nat) {C : World → Prop} {oi : Oper} {fuel : Nat} {listed : Array Bool} {a : Act} {v : Value} (hi : ops[i]? = some oi := by exact rfl) (hd : oi.dst = some t := by exact rfl) (h1 : ∀ w, C w → (execOp a.eval oi).run P w = .ok (.value v) w := by (intro W hW; go_simp; try rfl)) (h2 : wpU P md ops Q ex fuel C (listed.setIfInBounds i true) (a.put (some t) v))
 (hs : Region.noSelect ops = true := by kernel_rfl) (hf : Region.free md ops listed i = true := by kernel_rfl)
 (hr : (Region.ready md ops listed).contains i = true := by kernel_rfl) (hl : (lateAll md ops ex i && downB md ops listed) = true := by kernel_rfl) (hw : Region.wanted oi (yielded ops a.tmps) = true := by rfl) : wpU P md ops Q ex (fuel + 1) C listed a :=
 wpU_take hi hd hs hf hr hl hw ⟨v, h1, h2⟩
theorem wpU_g (i t : Nat) {C : World → Prop} {oi : Oper} {fuel : Nat} {listed : Array Bool} {a : Act} {v : Value} (hi : ops[i]? = some oi := by exact rfl) (hd : oi.dst = some t := by exact rfl) (h1 : ∀ w, C w → (execOp a.eval oi).run P w = .ok (.value v) w) (h2 : wpU P md ops Q ex fuel C (listed.setIfInBounds i true) (a.put (some t) v))
 (hs : Region.noSelect ops = true := by kernel_rfl) (hf : Region.free md ops listed i = true := by kernel_rfl)
 (hr : (Region.ready md ops listed).contains i = true := by kernel_rfl) (hl : (lateAll md ops ex i && downB md ops listed) = true := by kernel_rfl) (hw : Region.wanted oi (yielded ops a.tmps) = true := by rfl) : wpU P md ops Q ex (fuel + 1) C listed a :=
 wpU_take hi hd hs hf hr hl hw ⟨v, h1, h2⟩
theorem wpU_f (i t : Nat) {C : World → Prop} {oi : Oper} {fuel : Nat} {listed : Array Bool} {a a2 : Act} {v : Value} (hi : ops[i]? = some oi := by exact rfl) (hd : oi.dst = some t := by exact rfl) (h1 : ∀ w, C w → (execOp a.eval oi).run P w = .ok (.value v) w) (h2 : a.put (some t) v = a2 := by (go_simp; try rfl)) (h3 : wpU P md ops Q ex fuel C (listed.setIfInBounds i true) a2)
 (hs : Region.noSelect ops = true := by kernel_rfl) (hf : Region.free md ops listed i = true := by kernel_rfl)
 (hr : (Region.ready md ops listed).contains i = true := by kernel_rfl) (hl : (lateAll md ops ex i && downB md ops listed) = true := by kernel_rfl) (hw : Region.wanted oi (yielded ops a.tmps) = true := by rfl) : wpU P md ops Q ex (fuel + 1) C listed a :=
 wpU_take hi hd hs hf hr hl hw ⟨v, h1, h2 ▸ h3⟩
theorem wpU_e (i t : Nat) {C : World → Prop} {oi : Oper} {fuel : Nat} {listed : Array Bool} {a a2 : Act} {v : Value} (hi : ops[i]? = some oi := by exact rfl) (hd : oi.dst = some t := by exact rfl) (h1 : ∀ w, C w → (execOp a.eval oi).run P w = .ok (.value v) w := by (intro W hW; go_simp; try rfl)) (h2 : a.put (some t) v = a2 := by (go_simp; try rfl)) (h3 : wpU P md ops Q ex fuel C (listed.setIfInBounds i true) a2)
 (hs : Region.noSelect ops = true := by kernel_rfl) (hf : Region.free md ops listed i = true := by kernel_rfl)
 (hr : (Region.ready md ops listed).contains i = true := by kernel_rfl) (hl : (lateAll md ops ex i && downB md ops listed) = true := by kernel_rfl) (hw : Region.wanted oi (yielded ops a.tmps) = true := by rfl) : wpU P md ops Q ex (fuel + 1) C listed a :=
 wpU_take hi hd hs hf hr hl hw ⟨v, h1, h2 ▸ h3⟩
theorem wpU_new {C : World → Prop} {i : Nat} {oi : Oper} {fuel : Nat} {listed : Array Bool} {a : Act} {d : Option Tmp} (hi : ops[i]? = some oi) (hd : oi.dst = d) (hr : Region.ready md ops listed = [i])
  (hw : Region.wanted oi (yielded ops a.tmps) = true)
  (h : ∃ (fv : Nat → Value) (cs : Array Value) (t : TypeId), (∀ w, (execOp a.eval oi).run P w = .ok (.value (fv w.heap.size)) (w.alloc (.cells cs t))) ∧ ∀ g, (∃ w, C w ∧ g = w.heap.size) → wpU P md ops Q ex fuel (fun W => C W ∧ Blk W g cs t) (listed.setIfInBounds i true) (a.put d (fv g))) : wpU P md ops Q ex (fuel + 1) C listed a := by
 subst hd
 obtain ⟨fv, cs, t, hy, h⟩ := h
 refine ⟨fun h0 => (by rw [hr] at h0; cases h0), fun j hj => ?_⟩
 rw [hr] at hj
 obtain rfl : j = i := by simpa using hj
 exact .inr (.inr ⟨oi, fv, cs, t, hi, ⟨hw, hy⟩, h⟩)
theorem wpU_new2 {C : World → Prop} {i k : Nat} {oi ok : Oper} {fuel : Nat} {listed : Array Bool} {a : Act} {d d2 : Option Tmp} (hi : ops[i]? = some oi) (hk : ops[k]? = some ok) (hd : oi.dst = d) (hd2 : ok.dst = d2) (hs : Region.noSelect ops = true) (hr : Region.ready md ops listed = [i, k])
  (hr1 : Region.ready md ops (listed.setIfInBounds i true) = [k]) (hr2 : Region.ready md ops (listed.setIfInBounds k true) = [i]) (hap : oi.apart ops ok = true)
  (hw : Region.wanted oi (yielded ops a.tmps) = true) (hw2 : Region.wanted ok (yielded ops a.tmps) = true) (hne : i ≠ k)
  (h : ∃ (fv : Nat → Value) (cs : Array Value) (t : TypeId) (fv2 : Nat → Value) (cs2 : Array Value) (t2 : TypeId), (∀ w, (execOp a.eval oi).run P w = .ok (.value (fv w.heap.size)) (w.alloc (.cells cs t))) ∧ (∀ w, (execOp a.eval ok).run P w = .ok (.value (fv2 w.heap.size)) (w.alloc (.cells cs2 t2))) ∧
   ∀ g g2, (∃ w, C w ∧ g = w.heap.size) → (∃ w, C w ∧ g2 = w.heap.size) → g ≠ g2 → wpU P md ops Q ex fuel (fun W => (C W ∧ Blk W g cs t) ∧ Blk W g2 cs2 t2) ((listed.setIfInBounds i true).setIfInBounds k true) ((a.put d (fv g)).put d2 (fv2 g2))) : wpU P md ops Q ex (fuel + 2) C listed a := by
 subst hd hd2
 obtain ⟨fv, cs, t, fv2, cs2, t2, hy, hy2, h⟩ := h
 obtain ⟨p1, p2, p3⟩ := Oper.apart_spec hap
 have si := fun cs b => Region.noSelect_spec hs i oi cs b hi
 have sk := fun cs b => Region.noSelect_spec hs k ok cs b hk
 refine ⟨fun h0 => (by rw [hr] at h0; cases h0), fun j hj => ?_⟩
 rw [hr] at hj
 rcases List.mem_cons.1 hj with rfl | hj
 ·refine .inr (.inr ⟨oi, fv, cs, t, hi, ⟨hw, hy⟩, fun g hg => ?_⟩)
  have n : YieldsN P ops ok fv2 cs2 t2 (a.put oi.dst (fv g)) := YieldsN.of_same ⟨hw2, hy2⟩ (execOp_put ok sk a oi.dst _ p1) (wanted_put ok a oi.dst _ p1)
  exact wpU_new hk rfl hr1 n.1 ⟨fv2, cs2, t2, n.2, fun g2 ⟨W, hW, e⟩ => h g g2 hg ⟨W, hW.1, e⟩ (fun e' => by have := hW.2.lt; omega)⟩
 ·obtain rfl : j = k := by simpa using hj
  refine .inr (.inr ⟨ok, fv2, cs2, t2, hk, ⟨hw2, hy2⟩, fun g2 hg2 => ?_⟩)
  have n : YieldsN P ops oi fv cs t (a.put ok.dst (fv2 g2)) := YieldsN.of_same ⟨hw, hy⟩ (execOp_put oi si a ok.dst _ p3) (wanted_put oi a ok.dst _ p3)
  refine wpU_new hi rfl hr2 n.1 ⟨fv, cs, t, n.2, fun g ⟨W, hW, e⟩ => ?_⟩
  have := h g g2 ⟨W, hW.1, e⟩ hg2 (fun e' => by have := hW.2.lt; omega)
  rw [Array.setIfInBounds_comm _ _ hne, Act.put_comm a (fv g) (fv2 g2) p2] at this
  exact wpU_weak _ _ _ (fun W hW => ⟨⟨hW.1.1, hW.2⟩, hW.1.2⟩) this
theorem wpU_late {C : World → Prop} {fuel : Nat} {listed : Array Bool} {a : Act} (hr : (Region.ready md ops listed).all ex = true) (h : ∀ w, C w → wpAny P md ops Q (fuel + 1) listed a w) : wpU P md ops Q ex (fuel + 1) C listed a :=
 ⟨fun h0 w hw => (h w hw).1 h0, fun i hi => .inl ⟨List.all_eq_true.1 hr i hi, fun w hw => (h w hw).2 i hi⟩⟩
theorem ucall_run {a : Act} {o : Oper} {N : Nat} {f : Operand} {args : Array Operand} {tys : Array TypeId} {first cap : Array Value} (ho : o.op = .call { callee := .value f, args := args, argTypes := tys }) (hf : a.eval f = .func (.func N) first cap) (eg : ∀ (args : Array Value) (w : World), (callFunc N args).run P w = .ok (.enter N args) w) (w : World) :
  (execOp a.eval o).run P w = .ok (.enter N ((first ++ args.map a.eval) ++ cap)) w := by
 simp [execOp, ho, resolve, hf, Deferred.ofValue, invoke, eg]
theorem wpU_ca (i t : Nat) {C : World → Prop} {oi : Oper} {fuel : Nat} {listed : Array Bool} {a : Act} {v : Value} {f : FuncId} {fn : Func} {c : Code} {args : Array Value} (hF : P.funcs[f]? = some fn) (h1 : ∀ w, C w → Calls P f args w fun e w' => e = .returned v ∧ Below w.heap.size w w') (h2 : wpU P md ops Q ex fuel C (listed.setIfInBounds i true) (a.put (some t) v))
 (hi : ops[i]? = some oi := by exact rfl) (hd : oi.dst = some t := by exact rfl) (hN : (fn.name == "runtime.NumGoroutine") = false := by kernel_rfl) (hB : fn.body = some c := by exact rfl)
 (h3 : Enters P f → ∀ w, (execOp a.eval oi).run P w = .ok (.enter f args) w := by (intro en W; rw [ucall_run rfl rfl en W]; go_simp; try rfl))
 (hs : Region.noSelect ops = true := by kernel_rfl) (hf : Region.free md ops listed i = true := by kernel_rfl)
 (hr : (Region.ready md ops listed).contains i = true := by kernel_rfl) (hl : (lateAll md ops ex i && downB md ops listed) = true := by kernel_rfl) (hw : Region.wanted oi (yielded ops a.tmps) = true := by rfl) : wpU P md ops Q ex (fuel + 1) C listed a :=
 wpU_call v hi hd hs hf hr hl hw ⟨f, args, fun w _ => h3 (enters_of hF hN hB) w, h1⟩ h2
theorem uinvoke_run {a : Act} {o : Oper} {N K : Nat} {recv : Operand} {name : String} {args : Array Operand} {tys : Array TypeId} {t : TypeId} {v v' : Value} (ho : o.op = .call { callee := .invoke recv name, args := args, argTypes := tys }) (hr : a.eval recv = .iface t v) (hK : P.types.size + Made.depth = K) (hm : ∀ w : World, (method K t v name).run P w = .ok (N, v') w) (eg : ∀ (args : Array Value) (w : World), (callFunc N args).run P w = .ok (.enter N args) w) (w : World) :
  (execOp a.eval o).run P w = .ok (.enter N (#[v'] ++ args.map a.eval)) w := by
 subst hK
 have h0 : (#[Value.iface t v] ++ Array.map a.eval args)[0]? = some (Value.iface t v) := by rw [Array.getElem?_append_left (by simp)]; rfl
 have h1 : (Array.map a.eval args).extract 0 args.size = Array.map a.eval args := by
  have := Array.extract_size (xs := Array.map a.eval args)
  rwa [Array.size_map] at this
 simp [execOp, ho, resolve, hr, invoke, callMethod, h0, h1, hm, eg]
theorem wpU_done {C : World → Prop} {listed : Array Bool} {a : Act} (hr : Region.ready md ops listed = []) (h : ∀ w, C w → Q .normal a w) : ∀ fuel, wpU P md ops Q ex fuel C listed a
 | 0 => ⟨hr, h⟩
 | _ + 1 => ⟨fun _ => h, by rw [hr]; simp⟩
theorem wpAny_step1 {i : Nat} {o : Oper} {fuel : Nat} {listed : Array Bool} {a : Act} {w : World} (hr : Region.ready md ops listed = [i]) (ho : ops[i]? = some o) (hw : Region.wanted o (yielded ops a.tmps) = true)
  (h : ∀ K : Act → World → Prop, (∀ a' w', wpAny P md ops Q fuel (listed.setIfInBounds i true) a' w' → K a' w') → Oper.wp P o a w K Q) : wpAny P md ops Q (fuel + 1) listed a w := by
 refine ⟨fun h0 => (by rw [h0] at hr; cases hr), fun j hj => ?_⟩
 rw [hr] at hj
 obtain rfl : j = i := by simpa using hj
 have h1 := h _ (fun _ _ h => h)
 unfold wpOp
 rw [ho]
 simp only
 rw [if_pos hw]
 exact .inl h1
theorem wpAny_last {i : Nat} {o : Oper} {fuel : Nat} {listed : Array Bool} {a : Act} {w : World} (hr : Region.ready md ops listed = [i]) (ho : ops[i]? = some o) (hr2 : Region.ready md ops (listed.setIfInBounds i true) = []) (hw : Region.wanted o (yielded ops a.tmps) = true)
  (h : ∀ K : Act → World → Prop, (∀ a' w', Q .normal a' w' → K a' w') → Oper.wp P o a w K Q) : wpAny P md ops Q (fuel + 1) listed a w :=
 wpAny_step1 hr ho hw fun K hK => h K fun a' w' h' => hK a' w' (wpAny_done hr2 h' fuel)
end Go.Proofs.YtociicfjhgfgpaaGreatDoor

/- A range over slices.Backward of a number's groups: the law for the walk. Blocks and rows beside each other: plain facts. Comparing fractions by their whole parts, and then by what is left, upside down. -/
import Derived.Test.YtociicfjhgfgpaaGreatDoorR02
import Derived.Test.YtociicfjhgfgpaaGreatDoorR04
import Derived.Outline
import Derived.Lib.Hide
import Derived.KernelRfl
import Derived.Test.YtociicfjhgfgpaaGreatDoorR03
set_option linter.unusedVariables false
set_option linter.unusedSimpArgs false
set_option maxHeartbeats 4000000
set_option maxRecDepth 100000
namespace Go.Proofs.YtociicfjhgfgpaaGreatDoor
open Go.RowKit Go.Shelf Go.Proofs.YtociicfjhgfgpaaGreatDoorW.PrintWords
attribute [local go_sem] Oper.semAt_some
def bWants (xs : List Int) (k : Nat) (x : Int × Int) : Prop := ∃ m : Nat, k = m + 1 ∧ x = ((m : Int), rd xs (m : Int))
theorem back_in (F : Fence) (n : Nat) (h200 : F.fn 200) (hro : F.round = none) (hn : 1 ≤ n) (l B : Nat) (v : Value) (xs : List Int) (J' : Nat → World → Prop) (Jx' : World → Prop) (hl : xs.length ≤ 1000000)
  (hget : ∀ k W, J' k W → Blk W B #[v] 166 ∧ Rd W v xs)
  (hY : ∀ k x W, J' k W → bWants xs k x → YieldAt F (n - 1) Tryz.prog l #[.int .i64 x.1, .int .i64 x.2] W fun e W' =>
   (e = .returned (.bool true) ∧ J' (k - 1) W') ∨ (e = .returned (.bool false) ∧ Jx' W'))
  (W : World) (h0 : J' xs.length W) :
  CallsIn F n Tryz.prog 200 #[.func (.yield l) #[] #[], .pointer (some ⟨B, 0, none⟩)] W fun e W' => (∃ v, e = .returned v) ∧ ((∃ s, s = 0 ∧ J' s W') ∨ Jx' W') := by
 obtain ⟨hk0, hr0⟩ := hget _ _ h0
 have hc0 := hk0.cell 0
 obtain ⟨A, c, rfl, hcl, hr⟩ := hr0
 have hw0 : wrap64 ((xs.length : Int) - 1) = (xs.length : Int) - 1 := by unfold wrap64; omega
 refine callsIn_of_wp Tryz.func200 rfl h200 ?_ hro
 simp only [Tryz.ntmps200, List.size_toArray, List.length_cons, List.length_nil, Nat.reduceAdd, Nat.reduceSub, Array.replicate_succ, Array.replicate_zero, List.push_toArray, List.append_toArray, List.nil_append, List.cons_append]
 gi_wp2
 gi_loopw [3] (fun p wr => ∃ k : Nat, p = Value.int .i64 ((k : Int) - 1) ∧ k ≤ xs.length ∧ J' k wr) (fun p _ => (intOf p + 1).toNat)
 case atStart => exact ⟨_, rfl, Nat.le_refl _, h0⟩
 case round =>
  obtain ⟨k, rfl, hk, hj⟩ := hrel
  obtain ⟨hk1, hr1⟩ := hget _ _ hj
  have hc1 := hk1.cell 0
  obtain ⟨A1, c1, he, _, hr1⟩ := hr1
  injection he with e1 e2 e3
  subst e1 e3
  cases k with
  | zero =>
   gi_wp2
   go_end0
   exact ⟨⟨_, rfl⟩, .inl hj⟩
  | succ m =>
   rw [show ((m + 1 : Nat) : Int) - 1 = (m : Int) by omega]
   obtain ⟨ad, rfl, hx⟩ := Kd.at_int hr1 (m : Int) (by omega) (by omega)
   rw [Int.toNat_natCast] at hx
   have hmi : (m : Int) < (xs.length : Int) := by omega
   have hwm : wrap64 ((m : Int) - 1) = (m : Int) - 1 := by unfold wrap64; omega
   obtain ⟨fn, tmps, assign, body, hy, hR⟩ := hY _ ((m : Int), rd xs (m : Int)) wr hj ⟨m, rfl, rfl⟩
   dsimp only at hy
   gi_wp2
   refine hR.mono ?_
   rintro e W3 (⟨rfl, hJ3⟩ | ⟨rfl, hJx3⟩)
   ·gi_wp2
    refine ⟨⟨m, rfl, by omega, hJ3⟩, ?_⟩
    simp [intOf]
   ·gi_wp2
    refine bodyPost_ret (results_none rfl _ _ _) rfl ?_
    exact ⟨⟨_, rfl⟩, .inr hJx3⟩
theorem enters200 : ∀ args w, (callFunc 200 args).run Tryz.prog w = .ok (.enter 200 args) w := enters_of Tryz.func200 (by kernel_rfl) rfl
theorem wpIn_back {F : Fence} {n : Nat} (hro : F.round = none) (h200 : F.fn 200) (h1 : 3 ≤ n) {g : Operand} {ps : Array Tmp} {assign body : Code} {Q : Exit → Act → World → Prop} {a : Act} {w : World} {B : Nat} {v : Value} {xs : List Int} (hl : xs.length ≤ 1000000)
  (hg : a.eval g = .func (.func 200) #[] #[.pointer (some ⟨B, 0, none⟩)]) (hps : ps.size = 2) (encs : Int × Int → Array Value) (he : encs = fun x => #[.int .i64 x.1, .int .i64 x.2])
  (J : Nat → World → Prop) (Jx : Code → World → Prop) (hJ : OwnFrom w.heap.size J) (hJx : OwnFrom w.heap.size Jx) (hJr : ∀ k W, J k W → Blk W B #[v] 166 ∧ Rd W v xs) (h0 : J xs.length w) (a₁ : Int × Int → Act)
  (hassign : ∀ (l : Nat) (x : Int × Int) (W : World) (K : Act → World → Prop), K (a₁ x) W →
   assign.wpIn (F.inRound l) (n - 1 - 1) Tryz.prog (Exit.then K (fun _ _ _ => False)) { tmps := (ps.zip (encs x)).foldl (fun t (p, v) => t.setIfInBounds p v) a.tmps, defers := [] } W)
  (hbody : ∀ (l k : Nat) (W : World), k < xs.length → J (k + 1) W → body.wpIn (F.inRound l) (n - 1 - 1) Tryz.prog (stPost w.heap.size (J k) Jx W) (a₁ ((k : Int), rd xs (k : Int))) W)
  (hdone : ∀ (D : Nat) (W : World), w.heap.size ≤ D → J 0 W → W.heap[D]? = some (.deferred (some [])) → Q .normal { a with defers := { target := .collected D, args := #[] } :: a.defers } W)
  (hstop : ∀ (D : Nat) (c : Code) (W : World), w.heap.size ≤ D → Jx c W → W.heap[D]? = some (.deferred (some [])) → c.wpIn F n Tryz.prog Q { a with defers := { target := .collected D, args := #[] } :: a.defers } W) :
  (Code.rangeFunc g ps assign body).wpIn F n Tryz.prog Q a w := by
 subst he
 refine wpIn_rangeFunc_st (σ := Nat) (α := Int × Int) hro (by omega) (gf := 200) (lb := #[.pointer (some ⟨B, 0, none⟩)]) hg h200 enters200 (encs := fun x => #[.int .i64 x.1, .int .i64 x.2]) (fun _ => hps.symm)
  (fun k W => J k W ∧ k ≤ xs.length) Jx (bWants xs) (fun k _ => k - 1) (fun k => k = 0) xs.length (OwnFrom.and hJ (fun _ _ _ _ hs _ _ => hs)) hJx ⟨h0, Nat.le_refl _⟩ a₁ hassign ?_ ?_ ?_ hstop
 ·rintro l k x W ⟨hj, hk⟩ ⟨m, rfl, rfl⟩
  have := hbody l m W (by omega) hj
  refine wpIn_mono this ?_
  intro e a3 W3 hp
  cases e with
  | normal => exact ⟨hp.1, hp.2, by omega⟩
  | ret => exact hp
  | exit id => exact hp
  | goto t => exact hp
  | panic ch => exact hp
  | outgrown => exact hp
 ·intro l J' Jx' W1 hB hget hmv hY h0
  exact back_in F (n - 1) h200 hro (by omega) l B v xs J' Jx' hl (fun k W h => hJr k W (hget k W h).1) hY W1 h0
 ·rintro D k W hD rfl ⟨hj, _⟩ hK
  exact hdone D W hD hj hK
end Go.Proofs.YtociicfjhgfgpaaGreatDoor
namespace Go.Proofs.YtociicfjhgfgpaaGreatDoor
open Go.RowKit Go.Proofs.YtociicfjhgfgpaaGreatDoorW.PrintWords
theorem set_grown (W : World) (b i : Nat) (v : Value) : W.grownBy (W.setCell ⟨b, i, none⟩ v) (some b) :=
 ⟨rfl, rfl, rfl, by simp, fun k _ hk => Below.heap_setCell _ _ _ k (fun e => hk (by rw [e]))⟩
theorem Blk.kept {w w' : World} {b : Nat} {cs : Array Value} {t : TypeId} {row : Option Nat} (h : Blk w b cs t) (hg : w.grownBy w' row) (hne : some b ≠ row) : Blk w' b cs t := (hg.block b h.lt hne).trans h
theorem Own.cells {w : World} {base : Nat} {v : Value} {xs : List Int} (h : Own w base v xs) : w.ownsRow base 3 1 v xs.length (nums .i64 xs) := Kd.own_of_R h
theorem Own.not_blk {w : World} {base : Nat} {v : Value} {xs : List Int} (h : Own w base v xs) {b : Nat} {cs : Array Value} {t : TypeId} (hk : Blk w b cs t) (ht : t ≠ 3) : some b ≠ v.ownBlock := by
 rcases h.cells.2 with ⟨rfl, _⟩ | ⟨g, cap, cur, rfl, _, hgb, _⟩
 ·simp [Value.ownBlock]
 ·intro e'
  obtain rfl : b = g := by simpa [Value.ownBlock] using e'
  have := (show w.heap[b]? = _ from hk).symm.trans hgb
  simp at this
  exact ht this.2
theorem Own.kept {w w' : World} {base : Nat} {v : Value} {xs : List Int} {row : Option Nat} (h : Own w base v xs) (hg : w.grownBy w' row) (hne : row ≠ v.ownBlock) : Own w' base v xs :=
 own_of_cells (h.cells.kept hg (.inr (Ne.symm hne)))
theorem Own.set {w : World} {base : Nat} {v : Value} {xs : List Int} (h : Own w base v xs) {b : Nat} {cs : Array Value} {t : TypeId} (hk : Blk w b cs t) (ht : t ≠ 3) (i : Nat) (u : Value) : Own (w.setCell ⟨b, i, none⟩ u) base v xs :=
 h.kept (set_grown w b i u) (h.not_blk hk ht)
theorem Rd.kept {w w' : World} {v : Value} {xs : List Int} {row : Option Nat} (h : Rd w v xs) (hg : w.grownBy w' row) (hne : row ≠ v.ownBlock) : Rd w' v xs := by
 obtain ⟨A, c, rfl, hc, h1, h2, h3⟩ := h
 refine ⟨A, c, rfl, hc, h1, h2, fun hq => ?_⟩
 obtain ⟨ad, rfl, hh⟩ := h3 hq
 refine ⟨ad, rfl, fun j x hj => ?_⟩
 obtain ⟨cs, hl, hk, hcell⟩ := hh j x hj
 refine ⟨cs, hl, hk, fun i z hz => ?_⟩
 have hcz := hcell i z hz
 have hb : (ad.add (j * (Kd.int .i64).sz + i)).block = ad.block := by unfold Addr.add; split <;> rfl
 have hlt : ad.block < w.heap.size := by
  have := World.block_lt_of_cell? _ _ hcz
  rwa [hb] at this
 rw [World.cell?_of_block (w := w) (a := ad.add (j * (Kd.int .i64).sz + i))]
 ·exact hcz
 ·rw [hb]
  exact hg.block _ hlt (fun e => hne e.symm)
theorem Rd.set {w : World} {v : Value} {xs : List Int} (h : Rd w v xs) {b : Nat} (hne : some b ≠ v.ownBlock) (i : Nat) (u : Value) : Rd (w.setCell ⟨b, i, none⟩ u) v xs := h.kept (set_grown w b i u) hne
end Go.Proofs.YtociicfjhgfgpaaGreatDoor
namespace Go.Proofs.YtociicfjhgfgpaaGreatDoor
def cmpI (a b : Int) : Int := if a < b then -1 else if a = b then 0 else 1
theorem cmpI_neg (a b : Int) : cmpI a b = - cmpI b a := by
 unfold cmpI
 split <;> split <;> (try split) <;> omega
theorem cf_div {n d : Int} (hd : 0 < d) : n = d * (n / d) + n % d ∧ 0 ≤ n % d ∧ n % d < d :=
 ⟨(Int.mul_ediv_add_emod n d).symm, Int.emod_nonneg _ (by omega), Int.emod_lt_of_pos _ hd⟩
theorem cf_lt {n d m c : Int} (hd : 0 < d) (hc : 0 < c) (h : n / d < m / c) : n * c < m * d := by
 obtain ⟨h1, h2, h3⟩ := cf_div (n := n) hd
 obtain ⟨h4, h5, h6⟩ := cf_div (n := m) hc
 generalize n / d = q at *
 generalize m / c = p at *
 generalize n % d = r at *
 generalize m % c = s at *
 subst h1 h4
 have e1 : (d * q + r) * c ≤ (d * q + d) * c - c := by
  have : (r + 1) * c ≤ d * c := Int.mul_le_mul_of_nonneg_right (by omega) (by omega)
  grind
 have e2 : d * c * (q + 1) ≤ d * c * p := Int.mul_le_mul_of_nonneg_left (by omega) (Int.le_of_lt (Int.mul_pos hd hc))
 have e3 : 0 ≤ s * d := Int.mul_nonneg h5 (Int.le_of_lt hd)
 grind
theorem cf_ne {n d m c : Int} (hd : 0 < d) (hc : 0 < c) (h : n / d ≠ m / c) : cmpI (n / d) (m / c) = cmpI (n * c) (m * d) := by
 rcases Int.lt_or_gt_of_ne h with h | h
 ·have := cf_lt hd hc h
  unfold cmpI
  rw [if_pos h, if_pos this]
 ·have := cf_lt hc hd h
  unfold cmpI
  rw [if_neg (by omega), if_neg (by omega), if_neg (by omega), if_neg (by omega)]
theorem cf_eq {n d m c : Int} (h : n / d = m / c) : cmpI (n * c) (m * d) = cmpI (n % d * c) (m % c * d) := by
 have h1 := Int.mul_ediv_add_emod n d
 have h4 := Int.mul_ediv_add_emod m c
 rw [← h] at h4
 generalize n / d = q at *
 generalize n % d = r at *
 generalize m % c = s at *
 have e : n * c - r * c = m * d - s * d := by subst h1 h4; grind
 unfold cmpI
 split <;> split <;> (try split) <;> (try split) <;> omega
theorem cf_zz {n d m c : Int} (h : n / d = m / c) (hr : n % d = 0) (hs : m % c = 0) : cmpI (n * c) (m * d) = 0 := by
 rw [cf_eq h, hr, hs]
 simp [cmpI]
theorem cf_z1 {n d m c : Int} (hd : 0 < d) (hc : 0 < c) (h : n / d = m / c) (hr : n % d = 0) (hs : m % c ≠ 0) : cmpI (n * c) (m * d) = -1 := by
 have h5 := (cf_div (n := m) hc).2.1
 have : 0 < m % c * d := Int.mul_pos (by omega) hd
 rw [cf_eq h, hr]
 unfold cmpI
 rw [if_pos (by omega)]
theorem cf_1z {n d m c : Int} (hd : 0 < d) (hc : 0 < c) (h : n / d = m / c) (hr : n % d ≠ 0) (hs : m % c = 0) : cmpI (n * c) (m * d) = 1 := by
 have h5 := (cf_div (n := n) hd).2.1
 have : 0 < n % d * c := Int.mul_pos (by omega) hc
 rw [cf_eq h, hs]
 unfold cmpI
 rw [if_neg (by omega), if_neg (by omega)]
theorem cf_step {n d m c : Int} (h : n / d = m / c) : cmpI (n * c) (m * d) = - cmpI (d * (m % c)) (c * (n % d)) := by
 rw [cf_eq h, cmpI_neg, Int.mul_comm d, Int.mul_comm c]
end Go.Proofs.YtociicfjhgfgpaaGreatDoor
namespace Go.Proofs.YtociicfjhgfgpaaGreatDoor
open Go.RowKit Go.Shelf Go.Proofs.YtociicfjhgfgpaaGreatDoorW.PrintWords
attribute [local go_sem] Oper.semAt_some
theorem blk_from {β : Type} (B0 b : Nat) (t : TypeId) (f : β → Array Value) : OwnFrom B0 (fun (s : β) W => Blk W b (f s) t) := fun s X Y row hs hg hrow =>
 hs.kept hg (fun e' => by
  obtain ⟨_, o, ho, hc⟩ := hrow b e'.symm
  rw [show X.heap[b]? = _ from hs] at ho
  cases ho
  cases hc)
theorem own_from {β : Type} (B0 base : Nat) (v : β → Value) (f : β → List Int) : OwnFrom B0 (fun (s : β) W => Own W base (v s) (f s)) := fun s X Y row hs hg hrow => by
 have hs' : Own X base (v s) (f s) := hs
 refine own_of_cells (hs'.cells.kept hg ?_)
 rcases hs'.cells.2 with ⟨hv, _⟩ | ⟨g, cap, cur, hv, _, hgb, _⟩
 ·exact .inl (by rw [hv]; rfl)
 ·refine .inr fun e' => ?_
  obtain ⟨_, o, ho, hc⟩ := hrow g (by rw [← e', hv]; rfl)
  rw [hgb] at ho
  cases ho
  cases hc
theorem ownFrom_ex {β γ : Type} {B0 : Nat} {I : γ → β → World → Prop} (h : ∀ v, OwnFrom B0 (I v)) : OwnFrom B0 (fun s W => ∃ v, I v s W) := fun s X Y row ⟨v, hv⟩ hg hrow => ⟨v, h v s X Y row hv hg hrow⟩
theorem cmp_int (a b : Int) (w : World) : Calls Tryz.prog 177 #[.int .i64 a, .int .i64 b] w fun e w' => e = .returned (.int .i64 (cmpI a b)) ∧ w = w' := by
 rcases Int.lt_trichotomy a b with h | h | h
 ·rw [show cmpI a b = -1 by unfold cmpI; rw [if_pos h]]
  go_enter Tryz.func177, Tryz.ntmps177
  go_wp2
  go_ret
  exact ⟨rfl, rfl⟩
 ·subst h
  rw [show cmpI a a = 0 by unfold cmpI; rw [if_neg (by omega), if_pos rfl]]
  have h1 : ¬ a < a := by omega
  have h2 : ¬ a > a := by omega
  go_enter Tryz.func177, Tryz.ntmps177
  go_wp2
  go_ret
  exact ⟨rfl, rfl⟩
 ·rw [show cmpI a b = 1 by unfold cmpI; rw [if_neg (by omega), if_neg (by omega)]]
  have h1 : ¬ a < b := by omega
  go_enter Tryz.func177, Tryz.ntmps177
  go_wp2
  go_ret
  exact ⟨rfl, rfl⟩
theorem back_mk (A : Option Addr) (n c : Nat) (w : World) : Calls Tryz.prog 164 #[.slice A n c] w fun e w' => e = .returned (.func (.func 200) #[] #[.pointer (some ⟨w.heap.size, 0, none⟩)]) ∧ w.alloc (.cells #[.slice A n c] 166) = w' := by
 go_enter Tryz.func164, Tryz.ntmps164
 go_wp2
 go_ret
 exact ⟨rfl, rfl⟩
theorem Rd.reads {W : World} {A : Option Addr} {n c : Nat} {xs : List Int} (h : Rd W (.slice A n c) xs) : (Kd.int .i64).C W A xs.length xs ∧ xs.length = n := by
 obtain ⟨A', c', e, _, hr⟩ := h
 injection e with e1 e2 e3
 subst e1
 exact ⟨hr, e2.symm⟩
theorem ordN_step (xs ys : List Int) (k : Nat) : ordN xs ys (k + 1) = if rd xs (k : Int) = rd ys (k : Int) then ordN xs ys k else cmpI (rd xs (k : Int)) (rd ys (k : Int)) := by
 show (if _ then _ else _) = _
 split
 ·rfl
 ·rename_i h
  unfold cmpI
  split
  ·rfl
  ·first | rfl | rw [if_neg h]
theorem below_done {w W : World} {D : Nat} (hB : Below w.heap.size w W) (hD : w.heap.size ≤ D) (hK : W.heap[D]? = some (.deferred (some []))) : Below w.heap.size w (W.putObj D (.deferred none)) :=
 hB.trans (belowK_b (w := w) (Nat.le_refl _) W D _ _ hD hK rfl rfl)
theorem Blk.done {W : World} {b D : Nat} {cs : Array Value} {t : TypeId} (h : Blk W b cs t) (hK : W.heap[D]? = some (.deferred (some []))) : Blk (W.putObj D (.deferred none)) b cs t := by
 have hne : b ≠ D := by
  rintro rfl
  have := (show W.heap[b]? = _ from h).symm.trans hK
  cases this
 exact (World.putObj_heap_other hne).trans h
theorem def_set {W : World} {D b i : Nat} {v : Value} {cs : Array Value} {t : TypeId} (h : Blk W b cs t) (hK : W.heap[D]? = some (.deferred (some []))) : (W.setCell ⟨b, i, none⟩ v).heap[D]? = some (.deferred (some [])) := by
 have hne : D ≠ b := by
  rintro rfl
  have := (show W.heap[D]? = _ from h).symm.trans hK
  cases this
 exact (Below.heap_setCell W ⟨b, i, none⟩ v D hne).trans hK
def cmpJ (w : World) (u v : Value) (xs ys : List Int) (k : Nat) (W : World) : Prop :=
 (Below w.heap.size w W ∧ (Blk W (w.heap.size + 2) #[u] 166 ∧ (Blk W w.heap.size #[v] 166 ∧ Blk W (w.heap.size + 1) #[.int .i64 0] 3))) ∧ (k ≤ xs.length ∧ ordN xs ys k = ordN xs ys xs.length)
theorem cmpJ_from (w : World) (u v : Value) (xs ys : List Int) (B : Nat) (hB : w.heap.size ≤ B) : OwnFrom B (cmpJ w u v xs ys) :=
 OwnFrom.and (OwnFrom.and (ownFrom_below (Nat.le_refl _) hB) (OwnFrom.and (blk_from B _ _ (fun _ => #[u])) (OwnFrom.and (blk_from B _ _ (fun _ => #[v])) (blk_from B _ _ (fun _ => #[.int .i64 0]))))) (fun _ _ _ _ hs _ _ => hs)
def cmpX (w : World) (xs ys : List Int) (c : Code) (W : World) : Prop := c = .ret ∧ (Below w.heap.size w W ∧ Blk W (w.heap.size + 1) #[.int .i64 (ordN xs ys xs.length)] 3)
theorem cmpX_from (w : World) (xs ys : List Int) (B : Nat) (hB : w.heap.size ≤ B) : OwnFrom B (cmpX w xs ys) :=
 OwnFrom.and (fun _ _ _ _ hs _ _ => hs) (OwnFrom.and (ownFrom_below (Nat.le_refl _) hB) (blk_from B _ _ (fun _ => #[.int .i64 (ordN xs ys xs.length)])))
theorem compare_in (u v : Value) (xs ys : List Int) (n : Nat) (w : World) (h1 : Rd w u xs) (h2 : Rd w v ys) (hxn : xs.length = n) (hyn : ys.length = n) (hn : n ≤ 1000000) (hx : ∀ i, 0 ≤ rd xs i ∧ rd xs i ≤ 1000000) (hy : ∀ i, 0 ≤ rd ys i ∧ rd ys i ≤ 1000000) :
  CallsIn Fence.wide 6 Tryz.prog 116 #[u, v] w fun e w' => e = .returned (.int .i64 (ordN xs ys xs.length)) ∧ Below w.heap.size w w' := by
 have R1 := Aside0.mk h1
 have R2 := Aside0.mk h2
 have HX := Aside0.mk hx
 have HY := Aside0.mk hy
 clear hx hy
 obtain ⟨A, c, hu⟩ : ∃ A c, u = .slice A n c := by obtain ⟨A, c, e, -, -⟩ := h1; exact ⟨A, c, by rw [e, hxn]⟩
 obtain ⟨A2, c2, hv⟩ : ∃ A c, v = .slice A n c := by obtain ⟨A, c, e, -, -⟩ := h2; exact ⟨A, c, by rw [e, hyn]⟩
 subst hu hv
 clear h1 h2
 have hB0 : Below w.heap.size w (((w.alloc (.cells #[.slice A2 n c2] 166)).alloc (.cells #[.int .i64 0] 3)).alloc (.cells #[.slice A n c] 166)) := bZa (bZa (bZa (Below.refl _ _) _) _) _
 have hk0 : Blk (((w.alloc (.cells #[.slice A2 n c2] 166)).alloc (.cells #[.int .i64 0] 3)).alloc (.cells #[.slice A n c] 166)) w.heap.size #[.slice A2 n c2] 166 := ((Blk.new w _ _).alloc _).alloc _
 have hk1 : Blk (((w.alloc (.cells #[.slice A2 n c2] 166)).alloc (.cells #[.int .i64 0] 3)).alloc (.cells #[.slice A n c] 166)) (w.heap.size + 1) #[.int .i64 0] 3 := by
  have := (Blk.new (w.alloc (.cells #[.slice A2 n c2] 166)) #[.int .i64 0] 3).alloc (.cells #[.slice A n c] 166)
  rwa [World.size_alloc] at this
 have hk2 : Blk (((w.alloc (.cells #[.slice A2 n c2] 166)).alloc (.cells #[.int .i64 0] 3)).alloc (.cells #[.slice A n c] 166)) (w.heap.size + 2) #[.slice A n c] 166 := by
  have := Blk.new ((w.alloc (.cells #[.slice A2 n c2] 166)).alloc (.cells #[.int .i64 0] 3)) #[.slice A n c] 166
  rwa [World.size_alloc, World.size_alloc] at this
 have HK := Aside0.mk (And.intro hB0 (And.intro hk2 (And.intro hk0 hk1)))
 clear hB0 hk0 hk1 hk2
 refine callsIn_of_wp_marks Tryz.func116 rfl trivial ?_ rfl
 simp only [Tryz.ntmps116, List.size_toArray, List.length_cons, List.length_nil, Nat.reduceAdd, Nat.reduceSub, Array.replicate_succ, Array.replicate_zero, List.push_toArray, List.append_toArray, List.nil_append, List.cons_append]
 gi_wp2_with (refine ⟨trivial, ?_⟩; gi_at_call 164; refine (callsIn_wide.2 (back_mk _ _ _ _)).mono ?_; rintro e w2 ⟨rfl, rfl⟩)
 refine wpIn_back (B := w.heap.size + 2) (v := .slice A n c) (xs := xs) rfl trivial (by omega) (by omega) (by simp [Act.eval, World.size_alloc]) rfl _ rfl (cmpJ w (.slice A n c) (.slice A2 n c2) xs ys) (cmpX w xs ys) (cmpJ_from _ _ _ _ _ _ (by simp; omega)) (cmpX_from _ _ _ _ (by simp; omega)) ?hJr ?h0
  (fun x => { tmps := #[.slice A n c, .slice A2 n c2, undef, .pointer (some ⟨w.heap.size, 0, none⟩), .pointer (some ⟨w.heap.size + 1, 0, none⟩), .int .i64 x.1, .int .i64 x.2, .slice A n c, .int .i64 n, .slice A2 n c2, .int .i64 n, .bool false, undef, undef, undef, undef, undef, .slice A n c, .func (.func 200) #[] #[.pointer (some ⟨w.heap.size + 1 + 1, 0, none⟩)], .int .i64 x.1, .int .i64 x.2, undef, undef, undef, undef, undef, undef, undef, undef, undef, undef, undef, undef], defers := [] }) ?assign ?body ?done ?stop
 case hJr => exact fun k W h => ⟨h.1.2.1, R1.out.below h.1.1⟩
 case h0 => exact ⟨HK.out, Nat.le_refl _, rfl⟩
 case assign =>
  intro l x W K hK
  gi_wp2
  exact hK
 case body =>
  rintro l k W hk ⟨⟨hB, hk2, hk0, hk1⟩, hk', ho⟩
  have hr2 := (R2.out.below hB).reads.1
  have hst := ordN_step xs ys k
  obtain ⟨ad, rfl, hy1⟩ := Kd.at_int hr2 (k : Int) (by omega) (by omega)
  rw [Int.toNat_natCast] at hy1
  have hc0 := hk0.cell 0
  have hc1 := hk1.cell 0
  have hf1 := hk1.frozen 0
  have hki : (k : Int) < (n : Int) := by omega
  rw [ho] at hst
  generalize rd xs (k : Int) = a at *
  generalize rd ys (k : Int) = b at *
  by_cases hab : a = b
  ·rw [if_pos hab] at hst
   have hne : (a != b) = false := bne_eq_false_iff_eq.2 hab
   have HS := Aside0.mk hst
   have HW := Aside0.mk (And.intro hk hxn)
   clear hst ho hab hxn hyn hk hk'
   gi_wp2
   exact ⟨(KeepsOthers.refl W).from _, ⟨hB, hk2, hk0, hk1⟩, Nat.le_of_lt HW.out.1, HS.out.symm⟩
  ·rw [if_neg hab] at hst
   have hne : (a != b) = true := bne_iff_ne.2 hab
   have HS := Aside0.mk hst
   clear hst ho hab hxn hyn hk hk'
   gi_wp2_with (refine ⟨trivial, ?_⟩; gi_at_call 177; refine (CallsIn.inRound l (callsIn_wide.2 (cmp_int a b W))).mono ?_; rintro e w2 ⟨rfl, rfl⟩)
   refine ⟨(KeepsOthers.setCell _ _ _).from _, rfl, bZe hB (Nat.le_succ _), ?_⟩
   rw [HS.out]
   exact hk1.set 0 _
 case done =>
  rintro D W hD ⟨⟨hB, hk2, hk0, hk1⟩, _, ho⟩ hK
  have c1 := hk1.cell 0
  have f1 := hk1.frozen 0
  have HO := Aside0.mk ho
  clear ho
  gi_wp2
  have hK2 := def_set (i := 0) (v := .int .i64 0) hk1 hK
  refine ⟨by simp, .inl ⟨_, _, rfl, run_takeDeferred hK2, ?_⟩⟩
  have hkk := (hk1.set 0 (.int .i64 0)).done hK2
  have hcc := hkk.cell 0
  exact ⟨.int .i64 0, by simp [results, Tryz.results116, go_sem, hcc, asAddr], by rw [← HO.out]; rfl, below_done (bZe hB (Nat.le_succ _)) (by simp at hD; omega) hK2⟩
 case stop =>
  rintro D c W hD ⟨rfl, hB, hk1⟩ hK
  gi_wp2
  refine ⟨by simp, .inl ⟨_, _, rfl, run_takeDeferred hK, ?_⟩⟩
  have hkk := hk1.done hK
  have hcc := hkk.cell 0
  exact ⟨.int .i64 (ordN xs ys xs.length), by simp [results, Tryz.results116, go_sem, hcc, asAddr], rfl, below_done hB (by simp at hD; omega) hK⟩
end Go.Proofs.YtociicfjhgfgpaaGreatDoor
namespace Go.Proofs.YtociicfjhgfgpaaGreatDoor
open Go.RowKit Go.Shelf Go.Proofs.YtociicfjhgfgpaaGreatDoorW.PrintWords
attribute [local go_sem] Oper.semAt_some
theorem rd_small (a : Nat) (i : Int) : 0 ≤ rd (digs 10000 a) i ∧ rd (digs 10000 a) i ≤ 1000000 := by
 have h := dig_rd (b := 10000) (by decide) (digs_dig (b := 10000) (by decide) a) i
 omega
theorem int_compare (u v : Value) (a b : Nat) (w : World) (h1 : Rd w u (digs 10000 a)) (h2 : Rd w v (digs 10000 b)) (hl1 : (digs 10000 a).length ≤ 1000000) (hl2 : (digs 10000 b).length ≤ 1000000) :
  Calls Tryz.prog 116 #[u, v] w fun e w' => e = .returned (.int .i64 (cmpN a b)) ∧ Below w.heap.size w w' := by
 have ho := ordL_digs (b := 10000) (by decide) a b
 by_cases hl : (digs 10000 a).length = (digs 10000 b).length
 ·have := callsIn_wide.1 (compare_in u v _ _ _ w h1 h2 rfl hl.symm hl1 (rd_small a) (rd_small b))
  unfold ordL at ho
  rw [if_pos hl] at ho
  rw [ho] at this
  exact this
 ·have hb : (((digs 10000 a).length : Int) != ((digs 10000 b).length : Int)) = true := bne_iff_ne.2 (by omega)
  have hc : cmpI ((digs 10000 a).length : Int) ((digs 10000 b).length : Int) = cmpN a b := by
   rw [← ho]
   unfold ordL cmpI
   rw [if_neg hl]
   split
   ·rw [if_pos (by omega)]
   ·rw [if_neg (by omega), if_neg (by omega)]
  have C := fun W => cmp_int ((digs 10000 a).length : Int) ((digs 10000 b).length : Int) W
  rw [hc] at C
  generalize cmpN a b = z at *
  obtain ⟨A, c, rfl, -, -⟩ := h1
  obtain ⟨A2, c2, rfl, -, -⟩ := h2
  clear ho hc
  go_enter Tryz.func116, Tryz.ntmps116
  go_wp2_with (go_at_call 177; refine (C _).mono ?_; clear C; rintro e w2 ⟨rfl, rfl⟩)
  refine bodyPost_ret (v := .int .i64 z) (by simp [results, Tryz.results116, go_sem, asAddr]) rfl ?_
  exact ⟨rfl, by first | exact bZe (bZa (bZa (Below.refl _ _) _) _) (Nat.le_succ _) | exact bZa (bZa (Below.refl _ _) _) _⟩
end Go.Proofs.YtociicfjhgfgpaaGreatDoor

/- The law of ranging over a function whose loop variable lies in memory; slices.All of one prism: the walk. mill: Swept's closure: the walk. solid: reaching, the closure of Contains: the walks. -/
import Derived.Test.YtociicfjhgfgpaaGreatDoorR47
import Derived.RangeFuncNested
import Derived.RangeFuncBound
import Derived.RangeFuncCalls
import Derived.RangeFuncLeaves
import Derived.RangeFuncBox
import Derived.OwnWalkIn
import Derived.TacticsInMore
import Derived.LoopNIn
import Derived.LoopIn
import Derived.Outline
import Derived.Lib.Hide
import Derived.KernelRfl
import Derived.Test.YtociicfjhgfgpaaGreatDoorR22
import Derived.Test.YtociicfjhgfgpaaGreatDoorR46
import Derived.Test.YtociicfjhgfgpaaGreatDoorR28
set_option linter.unusedVariables false
set_option linter.unusedSimpArgs false
set_option maxHeartbeats 16000000
set_option maxRecDepth 100000
namespace Go.Proofs.YtociicfjhgfgpaaGreatDoor
open Go.RowKit Go.Shelf Go.Proofs.YtociicfjhgfgpaaGreatDoorW.PrintWords
section
variable {F : Fence} {n : Nat} {P : Program}
theorem wpIn_rangeFunc_sx {σ α : Type} {g : Operand} {ps : Array Tmp} {assign body : Code} {Q : Exit → Act → World → Prop} {a : Act} {w : World}
  (hro : F.round = none) (h1 : 1 ≤ n) {gf : Nat} {lb : Array Value} (hg : a.eval g = .func (.func gf) #[] lb) (hFg : F.fn gf) (eg : ∀ args w, (callFunc gf args).run P w = .ok (.enter gf args) w)
  {encs : α → Array Value} (hps : ∀ x, (encs x).size = ps.size)
  (J : σ → World → Prop) (Jx : Code → World → Prop) (Wants : σ → α → Prop) (nx : σ → α → σ) (Done : σ → Prop) (s0 : σ)
  (J1 : σ × α × Nat → World → Prop) (hJ : OwnFrom w.heap.size J) (hJ1 : OwnFrom w.heap.size J1) (hJx : OwnFrom w.heap.size Jx) (h0 : J s0 w) (a₁ : α → Nat → Act)
  (hassign : ∀ (l : Nat) (s : σ) (x : α) (W : World) (K : Act → World → Prop), J s W → Wants s x → (∀ g W', KeepsFrom w.heap.size W W' → J1 (s, x, g) W' → K (a₁ x g) W') →
   assign.wpIn (F.inRound l) (n - 1 - 1) P (Exit.then K (fun _ _ _ => False)) { tmps := (ps.zip (encs x)).foldl (fun t (p, v) => t.setIfInBounds p v) a.tmps, defers := [] } W)
  (hbody : ∀ (l : Nat) (s : σ) (x : α) (g : Nat) (W : World), J1 (s, x, g) W → Wants s x → body.wpIn (F.inRound l) (n - 1 - 1) P (stPost w.heap.size (J (nx s x)) Jx W) (a₁ x g) W)
  (iter : ∀ (l : Nat) (J' : σ → World → Prop) (Jx' : World → Prop) (W1 : World), Below w.heap.size w W1 →
   (∀ s W, J' s W → J s W) → (∀ s s' W W', J' s W → KeepsFrom w.heap.size W W' → J s' W' → J' s' W') →
   (∀ s x W, J' s W → Wants s x → YieldAt F (n - 1 - 1) P l (encs x) W fun e W' =>
    (e = .returned (.bool true) ∧ J' (nx s x) W') ∨ (e = .returned (.bool false) ∧ Jx' W')) →
   J' s0 W1 → CallsIn F (n - 1) P gf (#[.func (.yield l) #[] #[]] ++ lb) W1 fun e W' => (∃ v, e = .returned v) ∧ ((∃ s, Done s ∧ J' s W') ∨ Jx' W'))
  (hdone : ∀ (D : Nat) (s : σ) (W : World), w.heap.size ≤ D → Done s → J s W → W.heap[D]? = some (.deferred (some [])) → Q .normal { a with defers := { target := .collected D, args := #[] } :: a.defers } W)
  (hstop : ∀ (D : Nat) (c : Code) (W : World), w.heap.size ≤ D → Jx c W → W.heap[D]? = some (.deferred (some [])) → c.wpIn F n P Q { a with defers := { target := .collected D, args := #[] } :: a.defers } W) :
  (Code.rangeFunc g ps assign body).wpIn F n P Q a w := by
 refine wpIn_rangeFunc fun fn hfn => ?_
 rw [hro]
 -- the loop's record, in each of its states
 obtain ⟨rec, hrec⟩ : ∃ rec : LoopState → Option Code → Loop, rec = fun st pe => { state := st, pending := pe, fn, tmps := a.tmps, params := ps, assign, body, defers := w.heap.size } := ⟨_, rfl⟩
 obtain ⟨V, hV⟩ : ∃ V, (w.alloc (.deferred (some []))).alloc (.loop (rec .ready none)) = V := ⟨_, rfl⟩
 have rL : V.heap[w.heap.size + 1]? = some (.loop (rec .ready none)) := by
  rw [← hV]
  have := World.alloc_heap_new (w.alloc (.deferred (some []))) (.loop (rec .ready none))
  rwa [World.size_alloc] at this
 have rD : V.heap[w.heap.size]? = some (.deferred (some [])) := by
  rw [← hV]
  exact (Below.heap_alloc _ _ _ (by simp)).trans (World.alloc_heap_new w _)
 have rJ : J s0 V := by rw [← hV]; exact hJ.alloc _ (hJ.alloc _ h0)
 have rB : Below w.heap.size w V := by rw [← hV]; exact ((Below.refl _ w).alloc (Nat.le_refl _) _).alloc (by simp) _
 refine ⟨w.heap.size + 1, [{ target := .collected w.heap.size, args := #[] }], V, { target := .fn (.func gf) lb, args := #[.func (.yield (w.heap.size + 1)) #[] #[]] }, V, gf,
  #[.func (.yield (w.heap.size + 1)) #[] #[]] ++ lb, V, ?_, ?_, ?_, ?_, fun _ => h1, ?_⟩
 ·rw [← hV, hrec]
  exact run_enterLoop_outer _ _ _ _ _
 ·simp only [resolve, hg]
  simp [go_sem]
 ·intro f' hf'
  simp [Target.leads] at hf'
  subst hf'
  exact hFg
 ·simp [invoke, go_sem, eg]
 ·-- the iterator runs, at J beside the two blocks of the statement's own
  let J' : σ → World → Prop := fun s W => J s W ∧ W.heap[w.heap.size + 1]? = some (.loop (rec .ready none)) ∧ W.heap[w.heap.size]? = some (.deferred (some []))
  let Jx' : World → Prop := fun W => ∃ c, Jx c W ∧ W.heap[w.heap.size + 1]? = some (.loop (rec .done (some c))) ∧ W.heap[w.heap.size]? = some (.deferred (some []))
  refine (iter (w.heap.size + 1) J' Jx' V rB (fun s W h => h.1) (fun s s' W W' h hk h' => ⟨h', hk.same _ _ (by omega) h.2.1 rfl, hk.same _ _ (Nat.le_refl _) h.2.2 rfl⟩) ?_ ⟨rJ, rL, rD⟩).mono ?_
  ·-- one round
   rintro s x W ⟨hj, hl, hd⟩ hx
   have hy := run_yield (P := P) (args := encs x) hl (by rw [hrec]; exact hps x)
   rw [hrec] at hy
   refine ⟨fn, _, assign, body, hy, roundIn_of_wpIn hfn (hassign _ s x W _ hj hx fun g V1 hk1 hj1 => ?_)⟩
   replace hl := hk1.same _ _ (by omega) hl rfl
   replace hd := hk1.same _ _ (Nat.le_refl _) hd rfl
   replace hj := hj1
   clear hy hj1 hk1
   clear W
   revert hl hd hj
   intro hl hd hj
   refine ⟨_, run_beginRound hl (by rw [hrec]), ?_⟩
   obtain ⟨W2, hW2⟩ : ∃ W2, V1.putObj (w.heap.size + 1) (.loop { rec .ready none with state := .busy }) = W2 := ⟨_, rfl⟩
   have hl2 : W2.heap[w.heap.size + 1]? = some (.loop { rec .ready none with state := .busy }) := by
    rw [← hW2]
    exact World.putObj_heap_same (Array.getElem?_eq_some_iff.1 hl).1
   have hd2 : W2.heap[w.heap.size]? = some (.deferred (some [])) := by
    rw [← hW2]
    exact (World.putObj_heap_other (by omega)).trans hd
   have hj2 : J1 (s, x, g) W2 := by rw [← hW2]; exact hJ1.putObj _ hj (by omega) hl rfl
   rw [hrec] at hW2
   dsimp only at hW2
   rw [hrec]
   dsimp only
   rw [hW2]
   have ends : ∀ (jump : Option Code) (W3 : World), KeepsFrom w.heap.size W2 W3 →
     (Instr.endRound (w.heap.size + 1) jump).run P W3 = .ok (.bool jump.isNone) (W3.putObj (w.heap.size + 1) (.loop (rec (if jump.isNone then .ready else .done) jump))) ∧
     W3.heap[w.heap.size + 1]? = some (.loop { rec .ready none with state := .busy }) ∧
     (W3.putObj (w.heap.size + 1) (.loop (rec (if jump.isNone then .ready else .done) jump))).heap[w.heap.size + 1]? = some (.loop (rec (if jump.isNone then .ready else .done) jump)) ∧
     (W3.putObj (w.heap.size + 1) (.loop (rec (if jump.isNone then .ready else .done) jump))).heap[w.heap.size]? = some (.deferred (some [])) := by
    intro jump W3 hk3
    have hl3 := hk3.same _ _ (by omega) hl2 rfl
    have he := run_endRound (P := P) jump hl3
    rw [hrec] at he ⊢
    refine ⟨he, by rw [hrec] at hl3; exact hl3, World.putObj_heap_same (Array.getElem?_eq_some_iff.1 hl3).1, (World.putObj_heap_other (by omega)).trans (hk3.same _ _ (Nat.le_refl _) hd2 rfl)⟩
   refine wpIn_mono (hbody _ s x g W2 hj2 hx) ?_
   rintro e a3 W3 hp
   cases e with
   | normal =>
    obtain ⟨hk3, hj3⟩ := hp
    obtain ⟨hr, hl3, hl4, hd4⟩ := ends none W3 hk3
    exact ⟨_, _, hr, .inl ⟨rfl, hJ.putObj _ hj3 (by omega) hl3 rfl, hl4, hd4⟩⟩
   | ret =>
    obtain ⟨hk3, hj3⟩ := hp
    obtain ⟨hr, hl3, hl4, hd4⟩ := ends (some .ret) W3 hk3
    exact ⟨_, _, hr, .inr ⟨rfl, .ret, hJx.putObj _ hj3 (by omega) hl3 rfl, hl4, hd4⟩⟩
   | exit id =>
    obtain ⟨hk3, hj3⟩ := hp
    obtain ⟨hr, hl3, hl4, hd4⟩ := ends (some (.exit id)) W3 hk3
    exact ⟨_, _, hr, .inr ⟨rfl, .exit id, hJx.putObj _ hj3 (by omega) hl3 rfl, hl4, hd4⟩⟩
   | goto t =>
    obtain ⟨hk3, hj3⟩ := hp
    obtain ⟨hr, hl3, hl4, hd4⟩ := ends (some (.goto t)) W3 hk3
    exact ⟨_, _, hr, .inr ⟨rfl, .goto t, hJx.putObj _ hj3 (by omega) hl3 rfl, hl4, hd4⟩⟩
   | panic ch => exact hp.elim
   | outgrown => exact hp.elim
  ·-- behind the iterator
   rintro e W2 ⟨⟨v, rfl⟩, (⟨s, hS, hj, hl, hd⟩ | ⟨c, hj, hl, hd⟩)⟩
   ·exact ⟨none, _, by have h := run_endLoop (P := P) hl (by rw [hrec]; simp); rw [hrec] at h; exact h, hdone _ s _ (Nat.le_refl _) hS (hJ.putObj _ hj (by omega) hl rfl) ((World.putObj_heap_other (by omega)).trans hd)⟩
   ·exact ⟨some c, _, by have h := run_endLoop (P := P) hl (by rw [hrec]; simp); rw [hrec] at h; exact h, hstop _ c _ (Nat.le_refl _) (hJx.putObj _ hj (by omega) hl rfl) ((World.putObj_heap_other (by omega)).trans hd)⟩
end
theorem ownK_from {α β : Type} {d : Kd α} (B e a : Nat) (v : Value) (xs : List α) : OwnFrom B (fun (_ : β) W => OwnK d e W a v xs) := fun _ W W' row h hg hr =>
 Kd.R_mono (Kd.R_step (Kd.R_bound h) (fun k ho hlt => hg.block k hlt (by
  rintro rfl
  obtain ⟨-, o, ho2, hc⟩ := hr k rfl
  obtain ⟨-, -, -, q, -, cells, hcells⟩ := ho
  rw [hcells] at ho2
  cases ho2
  exact absurd hc (by simp [Obj.isCells])))) (fun _ hk => hk.1)
theorem ownR_from {β : Type} (B a : Nat) (v : Value) (r : Rg) : OwnFrom B (fun (_ : β) W => OwnR W a v r) := fun s W W' row h hg hr => by
 obtain ⟨u, n, e, hu, hn⟩ := h
 exact ⟨u, n, e, ownK_from (β := β) B 91 a u r.1 s W W' row hu hg hr, ownK_from (β := β) B 93 a n r.2 s W W' row hn hg hr⟩
attribute [local go_sem] Oper.semAt_some
theorem all_in (F : Fence) (n : Nat) (h185 : F.fn 185) (hro : F.round = none) (hn : 1 ≤ n) (l B gp c5 : Nat) (cur : Array Value) (A B0 : Option Addr) (n0 c0 m d : Nat) (z1 z2 t1 t2 : ByteArray) (k0 : Bool) (f : Int) (J' : Bool → World → Prop) (Jx' : World → Prop)
  (hget : ∀ s W, J' s W → Blk W B #[.slice (some ⟨gp, 0, none⟩) 1 c5] 55 ∧ Blk W gp cur 113) (q0 : cur[0]? = some (.slice A n0 c0)) (q1 : cur[1]? = some (.slice B0 m d)) (q2 : cur[2]? = some (.string z1)) (q3 : cur[3]? = some (.string z2)) (q4 : cur[4]? = some (.string t1)) (q5 : cur[5]? = some (.string t2)) (q6 : cur[6]? = some (.bool k0)) (q7 : cur[7]? = some (.int .i64 f))
  (hal : ∀ s W o, J' s W → J' s (W.alloc o))
  (hY : ∀ W, J' false W → YieldAt F (n - 1) Tryz.prog l #[.int .i64 0, .agg #[.slice A n0 c0, .slice B0 m d, .string z1, .string z2, .string t1, .string t2, .bool k0, .int .i64 f]] W fun e W' =>
   (e = .returned (.bool true) ∧ J' true W') ∨ (e = .returned (.bool false) ∧ Jx' W'))
  (W : World) (h0 : J' false W) :
  CallsIn F n Tryz.prog 185 #[.func (.yield l) #[] #[], .pointer (some ⟨B, 0, none⟩)] W fun e W' => (∃ v, e = .returned v) ∧ ((∃ s, s = true ∧ J' s W') ∨ Jx' W') := by
 obtain ⟨hk0, -⟩ := hget _ _ h0
 have hc0 := hk0.cell 0
 refine callsIn_of_wp Tryz.func185 rfl h185 ?_ hro
 simp only [Tryz.ntmps185, List.size_toArray, List.length_cons, List.length_nil, Nat.reduceAdd, Nat.reduceSub, Array.replicate_succ, Array.replicate_zero, List.push_toArray, List.append_toArray, List.nil_append, List.cons_append]
 gi_wp2
 gi_loopw [7] (fun p wr => ∃ k : Nat, p = Value.int .i64 (1 - (k : Int)) ∧ k ≤ 1 ∧ J' (k == 0) wr) (fun p _ => (1 - intOf p).toNat)
 case atStart => exact ⟨1, rfl, Nat.le_refl _, h0⟩
 case round =>
  obtain ⟨k, rfl, hk, hj⟩ := hrel
  obtain ⟨hk1, hg1⟩ := hget _ _ hj
  have hc1 := hk1.cell 0
  cases k with
  | zero =>
   gi_wp2
   go_end0
   exact ⟨⟨_, rfl⟩, .inl ⟨_, rfl, hj⟩⟩
  | succ m =>
   obtain rfl : m = 0 := by omega
   have d0 : wr.cell? ⟨gp, 0, none⟩ = some (.slice A n0 c0) := (hg1.cell 0).trans q0
   have d1 : wr.cell? ⟨gp, 1, none⟩ = some (.slice B0 m d) := (hg1.cell 1).trans q1
   have d2 : wr.cell? ⟨gp, 2, none⟩ = some (.string z1) := (hg1.cell 2).trans q2
   have d3 : wr.cell? ⟨gp, 3, none⟩ = some (.string z2) := (hg1.cell 3).trans q3
   have d4 : wr.cell? ⟨gp, 4, none⟩ = some (.string t1) := (hg1.cell 4).trans q4
   have d5 : wr.cell? ⟨gp, 5, none⟩ = some (.string t2) := (hg1.cell 5).trans q5
   have d6 : wr.cell? ⟨gp, 6, none⟩ = some (.bool k0) := (hg1.cell 6).trans q6
   have d7 : wr.cell? ⟨gp, 7, none⟩ = some (.int .i64 f) := (hg1.cell 7).trans q7
   obtain ⟨fn, tmps, assign, body, hy, hR⟩ := hY _ (hal _ _ (.cells #[.slice A n0 c0, .slice B0 m d, .string z1, .string z2, .string t1, .string t2, .bool k0, .int .i64 f] 113) hj)
   clear hY h0 hk0 hc0
   gi_wp2
   refine hR.mono ?_
   rintro e W3 (⟨rfl, hJ3⟩ | ⟨rfl, hJx3⟩)
   ·gi_wp2
    refine ⟨⟨0, rfl, by omega, hJ3⟩, ?_⟩
    simp [intOf]
   ·gi_wp2
    refine bodyPost_ret (results_none rfl _ _ _) rfl ?_
    exact ⟨⟨_, rfl⟩, .inr hJx3⟩
end Go.Proofs.YtociicfjhgfgpaaGreatDoor
namespace Go.Proofs.YtociicfjhgfgpaaGreatDoor
open Go.RowKit Go.Shelf Go.Lib Go.Proofs.YtociicfjhgfgpaaGreatDoorW.PrintWords
attribute [local go_sem] Oper.semAt_some
def swJ (w : World) (gs gp c5 bo : Nat) (cur PV : Array Value) (R : Value) (T : Rg) (s : Bool) (W : World) : Prop :=
 (Below w.heap.size w W ∧ Blk W gs #[.slice (some ⟨gp, 0, none⟩) 1 c5] 55 ∧ Blk W gp cur 113 ∧ OwnR W w.heap.size R T) ∧ ((s = false ∧ Blk W bo #[.slice none 0 0] 57) ∨ (s = true ∧ ∃ g, Blk W bo #[.slice (some ⟨g, 0, none⟩) 1 1] 57 ∧ Blk W g PV 113))
theorem swJ_from {w : World} {gs gp c5 bo : Nat} {cur PV : Array Value} {R : Value} {T : Rg} {B : Nat} (hB : w.heap.size ≤ B) : OwnFrom B (swJ w gs gp c5 bo cur PV R T) := by
 rintro s W W' row ⟨⟨h1, h2, h3, h4⟩, h5⟩ hg hr
 refine ⟨⟨ownFrom_below (β := Bool) (Nat.le_refl _) hB s W W' row h1 hg hr, blk_from (β := Bool) B _ _ (fun _ => _) s W W' row h2 hg hr, blk_from (β := Bool) B _ _ (fun _ => _) s W W' row h3 hg hr, ownR_from (β := Bool) B _ _ _ s W W' row h4 hg hr⟩, ?_⟩
 rcases h5 with ⟨hs, h⟩ | ⟨hs, g, h, h'⟩
 ·exact .inl ⟨hs, blk_from (β := Bool) B _ _ (fun _ => _) s W W' row h hg hr⟩
 ·exact .inr ⟨hs, g, blk_from (β := Bool) B _ _ (fun _ => _) s W W' row h hg hr, blk_from (β := Bool) B _ _ (fun _ => _) s W W' row h' hg hr⟩
theorem Blk.ne {w : World} {a b : Nat} {cs ds : Array Value} {t u : TypeId} (h : Blk w a cs t) (k : Blk w b ds u) (hne : t ≠ u) : a ≠ b := by
 rintro rfl
 have := (show w.heap[a]? = _ from h).symm.trans k
 injection this with this
 injection this with _ this
 exact hne this
theorem swJ1_from {w : World} {gs gp c5 bo : Nat} {cur PV : Array Value} {R : Value} {T : Rg} {B : Nat} (hB : w.heap.size ≤ B) : OwnFrom B (fun (q : Bool × Unit × Nat) W => swJ w gs gp c5 bo cur PV R T false W ∧ Blk W q.2.2 PV 113) :=
 fun q W W' row h hg hr => ⟨swJ_from hB false W W' row h.1 hg hr, blk_from (β := Unit) B q.2.2 113 (fun _ => PV) () W W' row h.2 hg hr⟩
theorem enters185 : ∀ args w, (callFunc 185 args).run Tryz.prog w = .ok (.enter 185 args) w := enters_of Tryz.func185 (by kernel_rfl) rfl
theorem ml_swept_in (a b c d z r t : Rat) (T : Rg) (w : World) (hp : Pow w) (e0 e1 e2 : Nat) (g0 : Blk w e0 #[.string (itx r.num), .string (itx (r.den : Int))] 25) (g1 : Blk w e1 #[.string (itx t.num), .string (itx (t.den : Int))] 25) (g2 : Blk w e2 #[.string (itx a.num), .string (itx (a.den : Int)), .string (itx b.num), .string (itx (b.den : Int)), .string (itx c.num), .string (itx (c.den : Int)), .string (itx d.num), .string (itx (d.den : Int)), .string (itx z.num), .string (itx (z.den : Int))] 61) (ha : Sq a) (hb' : Sq b) (hc : Sq c) (hd : Sq d) (hz : Sq z) (h : b = d ∨ a = c) (hr : Sq r) (h0 : 0 < r) (ht : Sq t) (hzt : z < t)
  (TR : ∀ W, Pow W → Calls Tryz.prog 184 #[tlv r t, psv a b c d z] W fun e w' => ∃ v, e = .returned v ∧ OwnR w' W.heap.size v T ∧ Below W.heap.size W w') :
  CallsIn Fence.wide 6 Tryz.prog 53 #[.pointer (some ⟨e0, 0, none⟩), .pointer (some ⟨e1, 0, none⟩), .pointer (some ⟨e2, 0, none⟩)] w fun e w' => ∃ g XA XAc YA YAc, e = .returned (.agg #[.slice (some ⟨g, 0, none⟩) 1 1]) ∧ Blk w' g #[.slice XA T.1.length XAc, .slice YA T.2.length YAc, .string (itx z.num), .string (itx (z.den : Int)), .string (itx t.num), .string (itx (t.den : Int)), .bool false, .int .i64 0] 113 ∧ OwnR w' w.heap.size (.agg #[.slice XA T.1.length XAc, .slice YA T.2.length YAc]) T ∧ Below w.heap.size w w' := by
 have SW := fun W g hp hk => ml_sweep a b c d z r t T W hp g hk ha hb' hc hd hz h hr h0 ht hzt TR
 clear ha hb' hc hd hz h hr h0 ht hzt TR
 unfold tlv at *
 generalize itx a.num = a1 at *
 generalize itx (a.den : Int) = a2 at *
 generalize itx b.num = b1 at *
 generalize itx (b.den : Int) = b2 at *
 generalize itx c.num = c1 at *
 generalize itx (c.den : Int) = c2 at *
 generalize itx d.num = d1 at *
 generalize itx (d.den : Int) = d2 at *
 generalize itx z.num = z1 at *
 generalize itx (z.den : Int) = z2 at *
 generalize itx r.num = r1 at *
 generalize itx (r.den : Int) = r2 at *
 generalize itx t.num = t1 at *
 generalize itx (t.den : Int) = t2 at *
 have hB0 : Below w.heap.size w ((w.alloc (.cells #[.slice none 0 0] 57)).alloc (.cells #[.string a1, .string a2, .string b1, .string b2, .string c1, .string c2, .string d1, .string d2, .string z1, .string z2] 61)) := bZa (bZa (Below.refl _ _) _) _
 have k0 := (Blk.new w #[.slice none 0 0] 57).alloc (.cells #[.string a1, .string a2, .string b1, .string b2, .string c1, .string c2, .string d1, .string d2, .string z1, .string z2] 61)
 have k1 := Blk.new2 w #[.slice none 0 0] #[.string a1, .string a2, .string b1, .string b2, .string c1, .string c2, .string d1, .string d2, .string z1, .string z2] 57 61
 have hbx := bZa (Below.refl w.heap.size w) (.cells #[.slice none 0 0] 57)
 have g0' := g0.below hbx
 have g1' := g1.below hbx
 have g2' := g2.below hbx
 obtain ⟨u0, u1, _, _⟩ := g0'.two
 obtain ⟨u2, u3, _, _⟩ := g1'.two
 have xc0 := g2'.c0
 have xc1 := g2'.c1
 have xc2 := g2'.c2
 have xc3 := g2'.c3
 have xc4 := g2'.c4
 have xc5 := g2'.c5
 have xc6 := g2'.c6
 have xc7 := g2'.c7
 have xc8 := g2'.c8
 have xc9 := g2'.c9
 have HK := Aside0.mk (And.intro hB0 (And.intro k0 k1))
 clear hB0 k0 k1 hbx g0' g1' g2'
 refine callsIn_of_wp_marks Tryz.func53 rfl trivial ?_ rfl
 simp only [Tryz.ntmps53, List.size_toArray, List.length_cons, List.length_nil, Nat.reduceAdd, Nat.reduceSub, Array.replicate_succ, Array.replicate_zero, List.push_toArray, List.append_toArray, List.nil_append, List.cons_append]
 gi_wp2_with (refine ⟨trivial, ?_⟩; gi_at_call 54; refine (callsIn_wide.2 (SW _ _ (hp.below HK.out.1) HK.out.2.2)).mono ?_; rintro e w2 ⟨gs, gp, c5, cur, XA, XAc, YA, YAc, rfl, hgs, KS, KG, hcur, HR, hb⟩)
 have hB2 := bZs HK.out.1 hb
 have KO2 := HK.out.2.1.below hb
 replace HR := HR.lower (bZz HK.out.1)
 have hle2 := bZz hB2
 have HC := Aside0.mk hcur
 have h0 : swJ w gs gp c5 w.heap.size cur #[.slice XA T.1.length XAc, .slice YA T.2.length YAc, .string z1, .string z2, .string t1, .string t2, .bool false, .int .i64 0] (.agg #[.slice XA T.1.length XAc, .slice YA T.2.length YAc]) T false w2 := ⟨⟨hB2, KS, KG, HR⟩, .inl ⟨rfl, KO2⟩⟩
 clear hcur hgs KS KG HR hb hB2 KO2 HK SW u0 u1 u2 u3 g0 g1 g2 xc0 xc1 xc2 xc3 xc4 xc5 xc6 xc7 xc8 xc9
 refine wpIn_rangeFunc_sx (σ := Bool) (α := Unit) rfl (by omega) (gf := 185) (lb := #[.pointer (some ⟨gs, 0, none⟩)]) (by simp [Act.eval]) trivial enters185 (encs := fun _ => #[.int .i64 0, .agg #[.slice XA T.1.length XAc, .slice YA T.2.length YAc, .string z1, .string z2, .string t1, .string t2, .bool false, .int .i64 0]]) (fun _ => rfl)
  (swJ w gs gp c5 w.heap.size cur #[.slice XA T.1.length XAc, .slice YA T.2.length YAc, .string z1, .string z2, .string t1, .string t2, .bool false, .int .i64 0] (.agg #[.slice XA T.1.length XAc, .slice YA T.2.length YAc]) T) (fun _ _ => False) (fun s _ => s = false) (fun _ _ => true) (fun s => s = true) false
  (fun q W => swJ w gs gp c5 w.heap.size cur #[.slice XA T.1.length XAc, .slice YA T.2.length YAc, .string z1, .string z2, .string t1, .string t2, .bool false, .int .i64 0] (.agg #[.slice XA T.1.length XAc, .slice YA T.2.length YAc]) T false W ∧ Blk W q.2.2 #[.slice XA T.1.length XAc, .slice YA T.2.length YAc, .string z1, .string z2, .string t1, .string t2, .bool false, .int .i64 0] 113)
  (swJ_from hle2) (swJ1_from hle2) (fun _ _ _ _ h _ _ => h) h0
  (fun _ g => { tmps := #[.pointer (some ⟨e0, 0, none⟩), .pointer (some ⟨e1, 0, none⟩), .pointer (some ⟨e2, 0, none⟩), .pointer (some ⟨w.heap.size, 0, none⟩), undef, .pointer (some ⟨g, 0, none⟩), .agg #[.string r1, .string r2], .agg #[.string t1, .string t2], .agg #[.string r1, .string r2, .string t1, .string t2], .agg #[.string a1, .string a2, .string b1, .string b2, .string c1, .string c2, .string d1, .string d2, .string z1, .string z2], .slice (some ⟨w.heap.size + 1, 0, none⟩) 1 1, .func (.func 185) #[] #[.pointer (some ⟨gs, 0, none⟩)], .int .i64 0, .agg #[.slice XA T.1.length XAc, .slice YA T.2.length YAc, .string z1, .string z2, .string t1, .string t2, .bool false, .int .i64 0], undef, undef, undef], defers := [] }) ?assign ?body ?iter ?done (fun _ _ _ _ h => h.elim)
 case assign =>
  intro l s x W K hj hs hK
  subst hs
  have hJA := (swJ_from hle2).alloc (s := false) (.cells #[.slice XA T.1.length XAc, .slice YA T.2.length YAc, .string z1, .string z2, .string t1, .string t2, .bool false, .int .i64 0] 113) hj
  have KA := Blk.new W #[.slice XA T.1.length XAc, .slice YA T.2.length YAc, .string z1, .string z2, .string t1, .string t2, .bool false, .int .i64 0] 113
  gi_wp2
  exact hK _ _ ((KeepsOthers.alloc _ _).from _) ⟨hJA, KA⟩
 case body =>
  rintro l s x g W ⟨⟨⟨hB, KS, KG, HR⟩, h5⟩, KA⟩ -
  have KO : Blk W w.heap.size #[.slice none 0 0] 57 := by
   rcases h5 with ⟨-, h⟩ | ⟨h, -⟩
   ·exact h
   ·cases h
  clear h5
  have c0 := KA.c0
  have c1 := KA.c1
  have c2 := KA.c2
  have c3 := KA.c3
  have c4 := KA.c4
  have c5 := KA.c5
  have c6 := KA.c6
  have c7 := KA.c7
  gi_wp2_with (refine ⟨trivial, ?_⟩; gi_at_call 55; refine (CallsIn.inRound l (callsIn_wide.2 (ml_only _ _ _ _ _ _ _ _ _ _ _ _ W))).mono ?_; rintro e w5 ⟨gn, rfl, hle, KN, hb5⟩; have KO5 := KO.below hb5; obtain ⟨f0, f1⟩ := KO5.one)
  refine ⟨((keeps_below hb5).trans (KeepsOthers.setCell _ _ _)).from _, ⟨bZe (bZs hB hb5) (Nat.le_refl _), (KS.below hb5).far ((KS.below hb5).ne KO5 (by decide)) _, (KG.below hb5).far ((KG.below hb5).ne KO5 (by decide)) _, (HR.below hb5).set KO5 (by decide) (by decide) 0 _⟩, .inr ⟨rfl, gn, KO5.set 0 _, KN.far (KN.ne KO5 (by decide)) _⟩⟩
 case iter =>
  intro l J' Jx' W1 hB1 hget hmv hY hj0
  exact all_in Fence.wide 5 trivial rfl (by omega) l gs gp c5 cur _ _ _ _ _ _ _ _ _ _ _ _ J' Jx' (fun s W h => ⟨(hget s W h).1.2.1, (hget s W h).1.2.2.1⟩) (HC.out 0 _ rfl) (HC.out 1 _ rfl) (HC.out 2 _ rfl) (HC.out 3 _ rfl) (HC.out 4 _ rfl) (HC.out 5 _ rfl) (HC.out 6 _ rfl) (HC.out 7 _ rfl) (fun s W o h => hmv s s W _ h ((KeepsOthers.alloc W o).from _) ((swJ_from hle2).alloc o (hget s W h))) (fun W h => hY false () W h rfl) W1 hj0
 case done =>
  rintro D s W hD rfl ⟨⟨hB, KS, KG, HR⟩, h5⟩ hK
  obtain ⟨g, KO, KN⟩ : ∃ g, Blk W w.heap.size #[.slice (some ⟨g, 0, none⟩) 1 1] 57 ∧ Blk W g #[.slice XA T.1.length XAc, .slice YA T.2.length YAc, .string z1, .string z2, .string t1, .string t2, .bool false, .int .i64 0] 113 := by
   rcases h5 with ⟨h, -⟩ | ⟨-, g, h, h'⟩
   ·cases h
   ·exact ⟨g, h, h'⟩
  clear h5
  obtain ⟨f0, f1⟩ := KO.one
  gi_wp2
  have hK2 := def_set (i := 0) (v := .slice (some ⟨g, 0, none⟩) 1 1) KO hK
  refine ⟨by simp, .inl ⟨_, _, rfl, run_takeDeferred hK2, ?_⟩⟩
  have KO2 := (KO.set 0 (.slice (some ⟨g, 0, none⟩) 1 1)).done hK2
  have KN2 := (KN.far (p := ⟨w.heap.size, 0, none⟩) (KN.ne KO (by decide)) (.slice (some ⟨g, 0, none⟩) 1 1)).done hK2
  have HR2 := (ownR_from (β := Unit) 0 _ _ _).putObj (s := ()) (.deferred none) (HR.set KO (by decide) (by decide) 0 (.slice (some ⟨g, 0, none⟩) 1 1)) (Nat.zero_le _) hK2 rfl
  have hB2 := below_done (bZe (j := 0) (v := .slice (some ⟨g, 0, none⟩) 1 1) hB (Nat.le_refl _)) (Nat.le_trans hle2 hD) hK2
  exact ⟨_, rZs rfl (.cell w.heap.size 57 #[.slice (some ⟨g, 0, none⟩) 1 1] (0, 0) _ rfl KO2 Tryz.underlying57 rfl (by kernel_rfl) .nil), g, _, _, _, _, rfl, KN2, HR2, hB2⟩
end Go.Proofs.YtociicfjhgfgpaaGreatDoor
namespace Go.Proofs.YtociicfjhgfgpaaGreatDoor
open Go.RowKit Go.Shelf Go.Lib Go.Proofs.YtociicfjhgfgpaaGreatDoorW.PrintWords
attribute [local go_sem] Oper.semAt_some
theorem sd_reaching (g : Nat) (s1 s2 : ByteArray) (w : World) :
  Calls Tryz.prog 60 #[.agg #[.slice (some ⟨g, 0, none⟩) 1 1], .agg #[.string s1, .string s2]] w fun e w' => e = .returned (.func (.func 131) #[] #[.pointer (some ⟨w.heap.size, 0, none⟩), .pointer (some ⟨w.heap.size + 1, 0, none⟩)]) ∧ Blk w' w.heap.size #[.slice (some ⟨g, 0, none⟩) 1 1] 57 ∧ Blk w' (w.heap.size + 1) #[.string s1, .string s2] 25 ∧ Below w.heap.size w w' := by
 obtain ⟨hB0, k0, k1⟩ := news2 w #[.slice (some ⟨g, 0, none⟩) 1 1] 57 #[.string s1, .string s2] 25
 have hmf := mk_fn
 go_enter Tryz.func60, Tryz.ntmps60
 go_wp2
 go_ret
 exact ⟨rfl, k0, k1, hB0⟩
theorem sd_in (n : Nat) (hn : 2 ≤ n) (l S Z g n0 m XAc YAc : Nat) (XA YA : Option Addr) (z1 z2 t1 t2 s1 s2 : ByteArray) (J' : Bool → World → Prop) (Jx' : World → Prop) (c1 c2 : Int) (h1 : c1 ≤ 0) (h2 : c2 ≤ 0)
  (hget : ∀ s W, J' s W → Pow W ∧ Blk W S #[.slice (some ⟨g, 0, none⟩) 1 1] 57 ∧ Blk W Z #[.string s1, .string s2] 25 ∧ Blk W g #[.slice XA n0 XAc, .slice YA m YAc, .string z1, .string z2, .string t1, .string t2, .bool false, .int .i64 0] 113)
  (C1 : ∀ W, Pow W → Calls Tryz.prog 18 #[.agg #[.string z1, .string z2], .agg #[.string s1, .string s2]] W fun e w' => e = .returned (.int .i64 c1) ∧ Below W.heap.size W w') (C2 : ∀ W, Pow W → Calls Tryz.prog 18 #[.agg #[.string s1, .string s2], .agg #[.string t1, .string t2]] W fun e w' => e = .returned (.int .i64 c2) ∧ Below W.heap.size W w')
  (hbl : ∀ s W W', J' s W → Below W.heap.size W W' → J' s W')
  (hY : ∀ W, J' false W → YieldAt Fence.wide (n - 1) Tryz.prog l #[.agg #[.slice XA n0 XAc, .slice YA m YAc, .string z1, .string z2, .string t1, .string t2, .bool false, .int .i64 0]] W fun e W' =>
   (e = .returned (.bool true) ∧ J' true W') ∨ (e = .returned (.bool false) ∧ Jx' W'))
  (W : World) (h0 : J' false W) :
  CallsIn Fence.wide n Tryz.prog 131 #[.func (.yield l) #[] #[], .pointer (some ⟨S, 0, none⟩), .pointer (some ⟨Z, 0, none⟩)] W fun e W' => (∃ v, e = .returned v) ∧ ((∃ s, s = true ∧ J' s W') ∨ Jx' W') := by
 obtain ⟨-, hk0, -, -⟩ := hget _ _ h0
 have hc0 := hk0.c0
 have hn1 : 1 ≤ n := Nat.le_of_succ_le hn
 have g1 : (c1 ≤ 0) = True := eq_true h1
 have g2 : (c2 ≤ 0) = True := eq_true h2
 refine callsIn_of_wp Tryz.func131 rfl trivial ?_ rfl
 simp only [Tryz.ntmps131, List.size_toArray, List.length_cons, List.length_nil, Nat.reduceAdd, Nat.reduceSub, Array.replicate_succ, Array.replicate_zero, List.push_toArray, List.append_toArray, List.nil_append, List.cons_append]
 gi_wp2
 gi_loopw [9] (fun p wr => ∃ k : Nat, p = Value.int .i64 (1 - (k : Int)) ∧ k ≤ 1 ∧ J' (k == 0) wr) (fun p _ => (1 - RowKit.intOf p).toNat)
 case atStart => exact ⟨1, rfl, Nat.le_refl _, h0⟩
 case round =>
  obtain ⟨k, rfl, hk, hj⟩ := hrel
  obtain ⟨hp, hk1, hz1, hg1⟩ := hget _ _ hj
  have hc1 := hk1.c0
  clear hk0 hc0 h0
  cases k with
  | zero =>
   gi_wp2
   go_end0
   exact ⟨⟨_, rfl⟩, .inl ⟨_, rfl, hj⟩⟩
  | succ m' =>
   obtain rfl : m' = 0 := by omega
   have d0 := hg1.c0
   have d1 := hg1.c1
   have d2 := hg1.c2
   have d3 := hg1.c3
   have d4 := hg1.c4
   have d5 := hg1.c5
   have d6 := hg1.c6
   have d7 := hg1.c7
   have hbA := bZa (Below.refl wr.heap.size wr) (.cells #[.slice XA n0 XAc, .slice YA m YAc, .string z1, .string z2, .string t1, .string t2, .bool false, .int .i64 0] 113)
   have KA := Blk.new wr #[.slice XA n0 XAc, .slice YA m YAc, .string z1, .string z2, .string t1, .string t2, .bool false, .int .i64 0] 113
   have hzA := hz1.below hbA
   have e0 := hzA.c0
   have e1 := hzA.c1
   have HJ := Aside0.mk hj
   clear hj
   gi_wp2_with (first | (refine ⟨trivial, ?_⟩; gi_at_call 18; refine (callsIn_wide.2 (C1 _ (hp.below hbA))).mono ?_; clear C1; rintro e w2 ⟨rfl, hb2⟩; have hbB := bZs hbA hb2; have hzB := hz1.below hbB; have KB := KA.below hb2; have x0 := hzB.c0; have x1 := hzB.c1; have y0 := KB.c0; have y1 := KB.c1; have y2 := KB.c2; have y3 := KB.c3; have y4 := KB.c4; have y5 := KB.c5; have y6 := KB.c6; have y7 := KB.c7) | (refine ⟨trivial, ?_⟩; gi_at_call 18; refine (callsIn_wide.2 (C2 _ (hp.below hbB))).mono ?_; clear C2; rintro e w3 ⟨rfl, hb3⟩; have hbC := bZs hbB hb3; have KC := KB.below hb3; have v0 := KC.c0; have v1 := KC.c1; have v2 := KC.c2; have v3 := KC.c3; have v4 := KC.c4; have v5 := KC.c5; have v6 := KC.c6; have v7 := KC.c7; obtain ⟨fn, tmps, assign, body, hy, hR⟩ := hY _ (hbl _ _ _ HJ.out hbC)))
   refine hR.mono ?_
   rintro e W3 (⟨rfl, hJ3⟩ | ⟨rfl, hJx3⟩)
   ·gi_wp2
    refine ⟨⟨0, rfl, by omega, hJ3⟩, ?_⟩
    simp [RowKit.intOf]
   ·gi_wp2
    refine bodyPost_ret (results_none rfl _ _ _) rfl ?_
    exact ⟨⟨_, rfl⟩, .inr hJx3⟩
end Go.Proofs.YtociicfjhgfgpaaGreatDoor

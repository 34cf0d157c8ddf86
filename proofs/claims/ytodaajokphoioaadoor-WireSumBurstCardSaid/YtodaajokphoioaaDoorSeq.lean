/- A law for the walk: a range over a function whose iterator keeps state of its own in cells. The iterator and the loop's rounds share one invariant J over a state; each moves it on. The conditions: no round leaves by a panic, no defer statement stands in a round. -/
import Derived.RangeFuncNested
import Derived.RangeFuncBound
import Derived.RangeFuncCalls
import Derived.RangeFuncLeaves
import Derived.RangeFuncBox
import Derived.Shelf.Abstract
import Derived.Shelf.RegionOpen
import Derived.WalkKit
import Derived.OwnWalkIn
import Derived.TacticsInMore
import Derived.LoopNIn
import Derived.LoopIn
import Derived.Maps.AppendAt
namespace Go.Proofs.YtodaajokphoioaaDoor
open Go.RowKit Go.Shelf

/-- How a round's body may be left: it goes on, in the next state; or by a jump. -/
def stPost (B : Nat) (N : World → Prop) (Jx : Code → World → Prop) (W : World) : Exit → Act → World → Prop
  | .normal, _, W' => KeepsFrom B W W' ∧ N W'
  | .ret, _, W' => KeepsFrom B W W' ∧ Jx .ret W'
  | .exit id, _, W' => KeepsFrom B W W' ∧ Jx (.exit id) W'
  | .goto t, _, W' => KeepsFrom B W W' ∧ Jx (.goto t) W'
  | .panic _, _, _ => False
  | .outgrown, _, _ => False

variable {F : Fence} {n : Nat} {P : Program}

theorem wpIn_rangeFunc_st {σ α : Type} {g : Operand} {ps : Array Tmp} {assign body : Code} {Q : Exit → Act → World → Prop} {a : Act} {w : World}
    (hro : F.round = none) (h1 : 1 ≤ n) {gf : Nat} {lb : Array Value} (hg : a.eval g = .func (.func gf) #[] lb) (hFg : F.fn gf) (eg : ∀ args w, (callFunc gf args).run P w = .ok (.enter gf args) w)
    {encs : α → Array Value} (hps : ∀ x, (encs x).size = ps.size)
    (J : σ → World → Prop) (Jx : Code → World → Prop) (Wants : σ → α → Prop) (nx : σ → α → σ) (Done : σ → Prop) (s0 : σ)
    (hJ : OwnFrom w.heap.size J) (hJx : OwnFrom w.heap.size Jx) (h0 : J s0 w) (a₁ : α → Act)
    (hassign : ∀ (l : Nat) (x : α) (W : World) (K : Act → World → Prop), K (a₁ x) W →
      assign.wpIn (F.inRound l) (n - 1 - 1) P (Exit.then K (fun _ _ _ => False)) { tmps := (ps.zip (encs x)).foldl (fun t (p, v) => t.setIfInBounds p v) a.tmps, defers := [] } W)
    (hbody : ∀ (l : Nat) (s : σ) (x : α) (W : World), J s W → Wants s x → body.wpIn (F.inRound l) (n - 1 - 1) P (stPost w.heap.size (J (nx s x)) Jx W) (a₁ x) W)
    (iter : ∀ (l : Nat) (J' : σ → World → Prop) (Jx' : World → Prop) (W1 : World), Below w.heap.size w W1 →
      (∀ s W, J' s W → J s W) → (∀ s s' W W', J' s W → KeepsFrom w.heap.size W W' → J s' W' → J' s' W') →
      (∀ s x W, J' s W → Wants s x → YieldAt F (n - 1 - 1) P l (encs x) W fun e W' =>
        (e = .returned (.bool true) ∧ J' (nx s x) W') ∨ (e = .returned (.bool false) ∧ Jx' W')) →
      J' s0 W1 → CallsIn F (n - 1) P gf (#[.func (.yield l) #[] #[]] ++ lb) W1 fun e W' => (∃ v, e = .returned v) ∧ ((∃ s, Done s ∧ J' s W') ∨ Jx' W'))
    (hdone : ∀ (D : Nat) (s : σ) (W : World), w.heap.size ≤ D → Done s → J s W → W.heap[D]? = some (.deferred (some [])) → Q .normal { a with defers := { target := .collected D, args := #[] } :: a.defers } W)
    (hstop : ∀ (D : Nat) (c : Code) (W : World), w.heap.size ≤ D → Jx c W → W.heap[D]? = some (.deferred (some [])) → c.wpIn F n P Q { a with defers := { target := .collected D, args := #[] } :: a.defers } W) :
    (Code.rangeFunc g ps assign body).wpIn F n P Q a w := by
  refine wpIn_rangeFunc fun fn hfn => ?_
  rw [hro]
  -- the loop's record, in each of its states
  obtain ⟨rec, hrec⟩ : ∃ rec : LoopState → Option Code → Loop, rec = fun st pe => { state := st, pending := pe, fn, tmps := a.tmps, params := ps, assign, body, defers := w.heap.size } := ⟨_, rfl⟩
  obtain ⟨V, hV⟩ : ∃ V, (w.alloc (.deferred (some []))).alloc (.loop (rec .ready none)) = V := ⟨_, rfl⟩
  have rL : V.heap[w.heap.size + 1]? = some (.loop (rec .ready none)) := by
    rw [← hV]
    have := World.alloc_heap_new (w.alloc (.deferred (some []))) (.loop (rec .ready none))
    rwa [World.size_alloc] at this
  have rD : V.heap[w.heap.size]? = some (.deferred (some [])) := by
    rw [← hV]
    exact (Below.heap_alloc _ _ _ (by simp)).trans (World.alloc_heap_new w _)
  have rJ : J s0 V := by rw [← hV]; exact hJ.alloc _ (hJ.alloc _ h0)
  have rB : Below w.heap.size w V := by rw [← hV]; exact ((Below.refl _ w).alloc (Nat.le_refl _) _).alloc (by simp) _
  refine ⟨w.heap.size + 1, [{ target := .collected w.heap.size, args := #[] }], V, { target := .fn (.func gf) lb, args := #[.func (.yield (w.heap.size + 1)) #[] #[]] }, V, gf,
    #[.func (.yield (w.heap.size + 1)) #[] #[]] ++ lb, V, ?_, ?_, ?_, ?_, fun _ => h1, ?_⟩
  · rw [← hV, hrec]
    exact run_enterLoop_outer _ _ _ _ _
  · simp only [resolve, hg]
    simp [go_sem]
  · intro f' hf'
    simp [Target.leads] at hf'
    subst hf'
    exact hFg
  · simp [invoke, go_sem, eg]
  · -- the iterator runs, at J beside the two blocks of the statement's own
    let J' : σ → World → Prop := fun s W => J s W ∧ W.heap[w.heap.size + 1]? = some (.loop (rec .ready none)) ∧ W.heap[w.heap.size]? = some (.deferred (some []))
    let Jx' : World → Prop := fun W => ∃ c, Jx c W ∧ W.heap[w.heap.size + 1]? = some (.loop (rec .done (some c))) ∧ W.heap[w.heap.size]? = some (.deferred (some []))
    refine (iter (w.heap.size + 1) J' Jx' V rB (fun s W h => h.1) (fun s s' W W' h hk h' => ⟨h', hk.same _ _ (by omega) h.2.1 rfl, hk.same _ _ (Nat.le_refl _) h.2.2 rfl⟩) ?_ ⟨rJ, rL, rD⟩).mono ?_
    · -- one round
      rintro s x W ⟨hj, hl, hd⟩ hx
      have hy := run_yield (P := P) (args := encs x) hl (by rw [hrec]; exact hps x)
      rw [hrec] at hy
      refine ⟨fn, _, assign, body, hy, roundIn_of_wpIn hfn (hassign _ x W _ ⟨_, run_beginRound hl (by rw [hrec]), ?_⟩)⟩
      obtain ⟨W2, hW2⟩ : ∃ W2, W.putObj (w.heap.size + 1) (.loop { rec .ready none with state := .busy }) = W2 := ⟨_, rfl⟩
      have hl2 : W2.heap[w.heap.size + 1]? = some (.loop { rec .ready none with state := .busy }) := by
        rw [← hW2]
        exact World.putObj_heap_same (Array.getElem?_eq_some_iff.1 hl).1
      have hd2 : W2.heap[w.heap.size]? = some (.deferred (some [])) := by
        rw [← hW2]
        exact (World.putObj_heap_other (by omega)).trans hd
      have hj2 : J s W2 := by rw [← hW2]; exact hJ.putObj _ hj (by omega) hl rfl
      rw [hrec] at hW2
      dsimp only at hW2
      rw [hrec]
      dsimp only
      rw [hW2]
      have ends : ∀ (jump : Option Code) (W3 : World), KeepsFrom w.heap.size W2 W3 →
          (Instr.endRound (w.heap.size + 1) jump).run P W3 = .ok (.bool jump.isNone) (W3.putObj (w.heap.size + 1) (.loop (rec (if jump.isNone then .ready else .done) jump))) ∧
          W3.heap[w.heap.size + 1]? = some (.loop { rec .ready none with state := .busy }) ∧
          (W3.putObj (w.heap.size + 1) (.loop (rec (if jump.isNone then .ready else .done) jump))).heap[w.heap.size + 1]? = some (.loop (rec (if jump.isNone then .ready else .done) jump)) ∧
          (W3.putObj (w.heap.size + 1) (.loop (rec (if jump.isNone then .ready else .done) jump))).heap[w.heap.size]? = some (.deferred (some [])) := by
        intro jump W3 hk3
        have hl3 := hk3.same _ _ (by omega) hl2 rfl
        have he := run_endRound (P := P) jump hl3
        rw [hrec] at he ⊢
        refine ⟨he, by rw [hrec] at hl3; exact hl3, World.putObj_heap_same (Array.getElem?_eq_some_iff.1 hl3).1, (World.putObj_heap_other (by omega)).trans (hk3.same _ _ (Nat.le_refl _) hd2 rfl)⟩
      refine wpIn_mono (hbody _ s x W2 hj2 hx) ?_
      rintro e a3 W3 hp
      cases e with
      | normal =>
        obtain ⟨hk3, hj3⟩ := hp
        obtain ⟨hr, hl3, hl4, hd4⟩ := ends none W3 hk3
        exact ⟨_, _, hr, .inl ⟨rfl, hJ.putObj _ hj3 (by omega) hl3 rfl, hl4, hd4⟩⟩
      | ret =>
        obtain ⟨hk3, hj3⟩ := hp
        obtain ⟨hr, hl3, hl4, hd4⟩ := ends (some .ret) W3 hk3
        exact ⟨_, _, hr, .inr ⟨rfl, .ret, hJx.putObj _ hj3 (by omega) hl3 rfl, hl4, hd4⟩⟩
      | exit id =>
        obtain ⟨hk3, hj3⟩ := hp
        obtain ⟨hr, hl3, hl4, hd4⟩ := ends (some (.exit id)) W3 hk3
        exact ⟨_, _, hr, .inr ⟨rfl, .exit id, hJx.putObj _ hj3 (by omega) hl3 rfl, hl4, hd4⟩⟩
      | goto t =>
        obtain ⟨hk3, hj3⟩ := hp
        obtain ⟨hr, hl3, hl4, hd4⟩ := ends (some (.goto t)) W3 hk3
        exact ⟨_, _, hr, .inr ⟨rfl, .goto t, hJx.putObj _ hj3 (by omega) hl3 rfl, hl4, hd4⟩⟩
      | panic ch => exact hp.elim
      | outgrown => exact hp.elim
    · -- behind the iterator
      rintro e W2 ⟨⟨v, rfl⟩, (⟨s, hS, hj, hl, hd⟩ | ⟨c, hj, hl, hd⟩)⟩
      · exact ⟨none, _, by have h := run_endLoop (P := P) hl (by rw [hrec]; simp); rw [hrec] at h; exact h, hdone _ s _ (Nat.le_refl _) hS (hJ.putObj _ hj (by omega) hl rfl) ((World.putObj_heap_other (by omega)).trans hd)⟩
      · exact ⟨some c, _, by have h := run_endLoop (P := P) hl (by rw [hrec]; simp); rw [hrec] at h; exact h, hstop _ c _ (Nat.le_refl _) (hJx.putObj _ hj (by omega) hl rfl) ((World.putObj_heap_other (by omega)).trans hd)⟩

end Go.Proofs.YtodaajokphoioaaDoor

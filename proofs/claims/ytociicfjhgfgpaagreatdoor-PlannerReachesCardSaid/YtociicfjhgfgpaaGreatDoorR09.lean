/- integer: text: the walk. From the row's condition on the listed variables to the facts that the walks ask: the table of powers of ten (Pow) and the planner's error (Plan); the witness's heap. The law'. -/
import Derived.Test.YtociicfjhgfgpaaGreatDoorR06
import Derived.Test.YtociicfjhgfgpaaGreatDoorR07
import Derived.Test.YtociicfjhgfgpaaGreatDoorR08
import Derived.Test.YtociicfjhgfgpaaGreatDoorRows
import Derived.Test.YtociicfjhgfgpaaGreatDoorR02
import Derived.ProofKit
import Derived.LaidMore
import Derived.Lay
import Derived.OpenShut
import Derived.Lib.LaidTab
import Derived.Stop.LaidErr
import Derived.MakeChecks
import Derived.Stop.Joined
import Derived.ChangeArms
import Derived.WalkKit
import Derived.Deep.RegionWith
set_option linter.unusedVariables false
set_option linter.unusedSimpArgs false
set_option maxHeartbeats 4000000
set_option maxRecDepth 100000
namespace Go.Proofs.YtociicfjhgfgpaaGreatDoor
open Go.RowKit Go.Shelf Go.Lib Go.Proofs.YtociicfjhgfgpaaGreatDoorW.PrintWords
attribute [local go_sem] Oper.semAt_some
abbrev Bd (W : World) (B b : Nat) (l : List UInt8) : Prop := Lib.IsBuilder 228 5 B b (Lib.byteCells l) W
abbrev Pow (W : World) : Prop := Lib.TabIs Tryz.prog W "internal/strconv.uint64pow10" .u64 Lib.pow10Tab
theorem tab_below {P : Program} {n : String} {g : Nat} {k : IntKind} {zs : List Int} {w w' : World} (hg : P.globalNamed n = some g) (h : Lib.TabIs P w n k zs) (hb : Below w.heap.size w w') : Lib.TabIs P w' n k zs := by
 unfold Lib.TabIs World.var? at h ⊢
 rw [hg] at h ⊢
 simp only [Option.bind_some] at h ⊢
 have hlt : g < w.heap.size := by
  rcases Nat.lt_or_ge g w.heap.size with h' | h'
  ·exact h'
  ·rw [Array.getElem?_eq_none h'] at h; cases h
 rw [hb.block g hlt]
 exact h
theorem Pow.below {W W' : World} (h : Pow W) (hb : Below W.heap.size W W') : Pow W' := by
 obtain ⟨g, hg⟩ : ∃ g, Tryz.prog.globalNamed "internal/strconv.uint64pow10" = some g := Option.isSome_iff_exists.1 (by kernel_rfl)
 exact tab_below hg h hb
theorem bAt_below {B b : Nat} {p : Value} {bs : List Value} {W W' : World} (h : Lib.BuilderAt 228 5 B b p bs W) (hb : Below W.heap.size W W') : Lib.BuilderAt 228 5 B b p bs W' := by
 obtain ⟨hB, v, hk, ho, hn⟩ := h
 refine ⟨hB, v, (hb.block b (Array.getElem?_eq_some_iff.1 hk).1).trans hk, ho.kept (grown_of_below hb none) ?_, hn⟩
 cases v.ownBlock with
 | none => exact .inl rfl
 | some k => exact .inr (fun e => by cases e)
theorem Bd.below {W W' : World} {B b : Nat} {l : List UInt8} (h : Bd W B b l) (hb : Below W.heap.size W W') : Bd W' B b l := h.elim (fun h => .inl (bAt_below h hb)) fun h => .inr (bAt_below h hb)
theorem bAt_from {W W' : World} {B b B0 : Nat} {row : Option Nat} {p : Value} {bs : List Value} (h : Lib.BuilderAt 228 5 B b p bs W) (hg : W.grownBy W' row) (hrow : ∀ r, row = some r → B0 ≤ r ∧ ∃ o, W.heap[r]? = some o ∧ o.isCells = false) : Lib.BuilderAt 228 5 B b p bs W' := by
 obtain ⟨hB, v, hk, ho, hn⟩ := h
 refine ⟨hB, v, (hg.block b (Array.getElem?_eq_some_iff.1 hk).1 (fun e' => ?_)).trans hk, ho.kept hg ?_, hn⟩
 ·obtain ⟨_, o, ho, hc⟩ := hrow b e'.symm
  rw [hk] at ho
  cases ho
  cases hc
 ·rcases ho.2 with ⟨hv, _⟩ | ⟨g, cap, cur, hv, _, hgb, _⟩
  ·exact .inl (by rw [hv]; rfl)
  ·refine .inr fun e' => ?_
   obtain ⟨_, o, ho, hc⟩ := hrow g (by rw [← e', hv]; rfl)
   rw [hgb] at ho
   cases ho
   cases hc
theorem bd_from {β : Type} (B0 B b : Nat) (f : β → List UInt8) : OwnFrom B0 (fun (s : β) W => Bd W B b (f s)) := fun s X Y row hs hg hrow => (show Bd X B b (f s) from hs).elim (fun h => .inl (bAt_from h hg hrow)) fun h => .inr (bAt_from h hg hrow)
theorem Bd.done {W : World} {D B b : Nat} {l : List UInt8} (h : Bd W B b l) (hK : W.heap[D]? = some (.deferred (some []))) : Bd (W.putObj D (.deferred none)) B b l :=
 bd_from 0 B b (fun _ : Unit => l) () W _ (some D) h (grownBy_putObj' W D _) (fun r e => by cases e; exact ⟨Nat.zero_le _, _, hK, rfl⟩)
theorem itoa_at (n : Nat) (hn : n < 10000) (W : World) (h : Pow W) : Calls Tryz.prog 173 #[.int .i64 n] W fun e w' => e = .returned (.string ⟨(decDigits n).toArray⟩) ∧ Below W.heap.size W w' := by
 refine (Lz.strconv_Itoa (n : Int) (by omega) (by omega) W h).mono ?_
 rintro e w' ⟨rfl, k, os, rfl⟩
 refine ⟨?_, rfl, rfl, rfl, by simp [Sort.grow], fun i hi => Sort.heap_grow_old (W.drewN k) os hi⟩
 have h1 := itx_nat n
 rw [itx_arr] at h1
 exact congrArg (fun s => Ending.returned (Value.string s)) h1
theorem strCells_bytes (l : List UInt8) : Lib.strCells ⟨l.toArray⟩ = Lib.byteCells l := by rfl
theorem bd_write (B b : Nat) (l m : List UInt8) (W : World) (h : Bd W B b l) (hlen : l.length + m.length ≤ 1000000) (hB : B ≤ W.heap.size) :
  Calls Tryz.prog 175 #[.pointer (some ⟨b, 0, none⟩), .string ⟨m.toArray⟩] W fun e w' => e = .returned (.tuple #[.int .i64 m.length, .nilIface]) ∧ Bd w' B b (l ++ m) ∧ Below B W w' ∧ KeepsOthers W w' ∧ KB b W w' := by
 refine (bld_write B b (Lib.byteCells l) ⟨m.toArray⟩ W h (by simp [Lib.byteCells, ByteArray.size]; omega) hB).mono ?_
 rintro e w' ⟨rfl, hb, hbb, hK, hKB⟩
 refine ⟨rfl, .inr ?_, hbb, hK, hKB⟩
 rw [strCells_bytes] at hb
 rw [show Lib.byteCells (l ++ m) = Lib.byteCells l ++ Lib.byteCells m by simp [Lib.byteCells]]
 exact hb
theorem keeps_freeze (w : World) (p : Addr) (n : Nat) : KeepsOthers w (w.freeze p n) := by
 unfold World.freeze
 split
 ·exact KeepsOthers.refl w
 ·refine ⟨by simp, fun k o hk ho => ?_⟩
  simp only [Array.getElem?_modify]
  split
  ·rename_i e
   subst e
   rw [hk]
   cases o <;> simp_all [Obj.isCells]
  ·exact hk
theorem kb_freeze {w : World} (b g : Nat) (n : Nat) {cur : Array Value} (hg : w.heap[g]? = some (.cells cur 5)) : KB b w (w.freeze ⟨g, 0, none⟩ n) := fun k cs t hk ht _ => by
 unfold World.freeze
 split
 ·exact hk
 ·simp only [Array.getElem?_modify]
  split
  ·rename_i e
   subst e
   rw [hg] at hk
   cases hk
   exact absurd rfl ht
  ·exact hk
theorem cellsByte5 : Tryz.prog.cellsOf 5 = 1 := by kernel_rfl
theorem bd_string (B b : Nat) (l : List UInt8) (w : World) (h : Bd w B b l) (h0 : l ≠ []) :
  Calls Tryz.prog 176 #[.pointer (some ⟨b, 0, none⟩)] w fun e w' => e = .returned (.string ⟨l.toArray⟩) ∧ Below B w w' ∧ KeepsOthers w w' ∧ KB b w w' := by
 obtain ⟨p, hB, v, hbk, hown, hne⟩ : ∃ p, Lib.BuilderAt 228 5 B b p (Lib.byteCells l) w := by
  rcases h with h | h
  ·exact ⟨_, h⟩
  ·exact ⟨_, h⟩
 have hl0 : l.length ≠ 0 := by simpa using h0
 rw [Lib.byteCells_length] at hown
 obtain ⟨g, cap, cur, rfl, hbg, hg, hnc, hcm, hcs, htake⟩ : ∃ g cap cur, v = .slice (some ⟨g, 0, none⟩) l.length cap ∧ B ≤ g ∧ w.heap[g]? = some (.cells cur 5 (0, 0)) ∧ l.length ≤ cap ∧ cap ≤ maxLen ∧ cur.size = cap * 1 ∧ cur.toList.take (l.length * 1) = Lib.byteCells l := by
  rcases hown.2 with ⟨_, hz⟩ | ⟨g, cap, cur, hv, r⟩
  ·exact absurd hz hl0
  ·exact ⟨g, cap, cur, hv, r⟩
 have c1 : w.drew.cell? ⟨b, 1, none⟩ = some (.slice (some ⟨g, 0, none⟩) l.length cap) := by
  have : w.drew.heap[b]? = some (.cells #[p, .slice (some ⟨g, 0, none⟩) l.length cap] 228 (0, 0)) := hbk
  rw [Lib.cell_of_heap this]; rfl
 have hSD : (Builtin.unsafeSliceData_ #[226] 262 #[.slice (some ⟨g, 0, none⟩) l.length cap]).run Tryz.prog w.drew = .ok (.pointer (some ⟨g, 0, none⟩)) w.drew :=
  Lib.run_unsafeSliceData_row _ _ _ _ _ _ (by omega)
 have hUS : (Builtin.unsafeString_ #[262, 3] 9 #[.pointer (some ⟨g, 0, none⟩), .int .i64 l.length]).run Tryz.prog w.drew = .ok (.string ⟨l.toArray⟩) (w.drew.freeze ⟨g, 0, none⟩ l.length) := by
  refine Lib.run_unsafeString_row w.drew 262 3 9 5 Tryz.underlying262 cellsByte5 g cur.size (by have hg' : w.drew.heap[g]? = some (.cells cur 5 (0, 0)) := hg; simp [World.shape?, hg']) l h0 (by omega) (by unfold maxLen at hcm; omega) ?_
  intro j x hx
  have := hown.cells (g := g) rfl j (.int .u8 x.toNat) (by simp [Lib.byteCells, hx])
  exact this
 clear hcs htake hnc hcm hown hne
 go_enter Tryz.func176, Tryz.ntmps176
 go_wp2
 go_region
 all_goals (go_wp2; go_ret; exact ⟨rfl, Lib.below_freeze (Below.drew (Below.refl B w)) (p := ⟨g, 0, none⟩) hbg _, (KeepsOthers.drew w).trans (keeps_freeze _ _ _), fun k cs t hk => kb_freeze (w := w.drew) b g _ hg k cs t hk⟩)
end Go.Proofs.YtociicfjhgfgpaaGreatDoor
namespace Go.Proofs.YtociicfjhgfgpaaGreatDoor
open Go.ChangeShapes Go.WideShapes Go.ChangeAt Go.RowKit
abbrev laidL : List (String × DataW Unit) := [("math/bits.deBruijn32tab", Rows.laid_math_bits_deBruijn32tab), ("math/bits.deBruijn64tab", Rows.laid_math_bits_deBruijn64tab), ("internal/strconv.uint64pow10", Rows.laid_internal_strconv_uint64pow10), ("unicode/utf8.acceptRanges", Rows.laid_unicode_utf8_acceptRanges), ("strconv.ErrRange", Rows.laid_strconv_ErrRange), ("strconv.ErrSyntax", Rows.laid_strconv_ErrSyntax), ("workpiece/mill.errMill", Rows.laid_workpiece_mill_errMill), ("workpiece/planner.errPlan", Rows.laid_workpiece_planner_errPlan), ("unicode/utf8.first", Rows.laid_unicode_utf8_first)]
theorem ownK : ownKnob Tryz.prog.godebug = none := by kernel_rfl
theorem gPow : Tryz.prog.globalNamed "internal/strconv.uint64pow10" = some 4 := by kernel_rfl
theorem gErr : Tryz.prog.globalNamed "workpiece/planner.errPlan" = some 0 := by kernel_rfl
theorem tErr : (Tryz.prog.globals[0]?).map (·.type) = some 126 := by kernel_rfl
theorem cells333 : Tryz.prog.cellsOf 333 = 1 := by kernel_rfl
theorem cells9 : Tryz.prog.cellsOf 9 = 1 := by kernel_rfl
theorem tPow : (Tryz.prog.globals[4]?).map (·.type) = some 313 := by kernel_rfl
theorem cells280 : Tryz.prog.cellsOf 280 = 1 := by kernel_rfl
theorem cells313 : Tryz.prog.cellsOf 313 = 20 := by kernel_rfl
theorem star : "*" ++ "errors.errorString" = "*errors.errorString" := by decide
theorem row331 (u : TypeId) (h : Tryz.prog.typeName? 3 u = some "*errors.errorString") : u = 331 :=
 typeName_ptr_named (nm := "errors.errorString") (by rw [star]; kernel_rfl) (by kernel_rfl) (by decide) u (by rw [star]; exact h)
theorem door_met (os : Os) (args : Array Value) : laidMetH Tryz.prog laidL ((World.laidAll Tryz.prog os laidL).forCall (fun _ _ => 0) ⟨#[], args, []⟩).memory := by
 rw [MakeChecks.laidMetH_plain _ _ _ (by kernel_rfl)]
 exact laidMet_laidAll _ (by kernel_rfl) (by kernel_rfl)
theorem pow_of_laid {W : World} (h : laidMetH Tryz.prog laidL W) : Pow W := by
 rw [MakeChecks.laidMetH_plain _ _ _ (by kernel_rfl)] at h
 have h2 := h.tail.tail
 exact Lib.tabIs_of_head (k := .u64) (zs := Lib.pow10Tab) gPow tPow Tryz.underlying313 Tryz.underlying280 cells280 cells313 h2
theorem plan_of_laid {W : World} (h : laidMetH Tryz.prog laidL W) : ∃ a, Plan W a := by
 rw [MakeChecks.laidMetH_plain _ _ _ (by kernel_rfl)] at h
 have h6 := h.tail.tail.tail.tail.tail.tail.tail
 obtain ⟨a, s, hv, hc, hs, hz⟩ := laid_sentinel h6 gErr tErr Tryz.underlying126 row331 Tryz.underlying331 Tryz.underlying333 rfl rfl Tryz.underlying9 cells333 cells9
 exact ⟨a, by simpa [Plan] using World.var?_cell gErr hv 0⟩
theorem cells3 : Tryz.prog.cellsOf 3 = 1 := by kernel_rfl
theorem cells23 : Tryz.prog.cellsOf 23 = 5 := by kernel_rfl
theorem cells47 : Tryz.prog.cellsOf 47 = 3 := by kernel_rfl
theorem len3 {α : Type} : ∀ {l : List α}, l.length = 3 → ∃ a b c, l = [a, b, c]
 | [a, b, c], _ => ⟨a, b, c, rfl⟩
theorem len5 {α : Type} : ∀ {l : List α}, l.length = 5 → ∃ a b c d e, l = [a, b, c, d, e]
 | [a, b, c, d, e], _ => ⟨a, b, c, d, e, rfl⟩
variable {H : Type} {enc : TypeId × Value → H} {W : World} {base : Nat} {spare : Nat → Bool} {held : Bool}
theorem open_ints3 {r : Reach} {b0 : Nat} {v : Value} {d : DataW H} {ps : List MemPlace} (hval : Value.okWide Tryz.prog W r b0 47 v) (hd : DataW.Trod enc Tryz.prog W base spare held 47 v d ps) :
  ∃ a b c, v = .agg #[.int .i64 a, .int .i64 b, .int .i64 c] ∧ d = .agg [.lit (.int .i64 a), .lit (.int .i64 b), .lit (.int .i64 c)] ∧ ps = [] ∧ (Lit.int .i64 a).wf = true ∧ (Lit.int .i64 b).wf = true ∧ (Lit.int .i64 c).wf = true := by
 obtain ⟨cs, rfl, hz⟩ : ∃ cs, v = .agg cs ∧ cs.size = Tryz.prog.cellsOf 47 := by
  simp only [Value.okWide, Tryz.underlying47] at hval
  obtain ⟨cs, h1, h2, _⟩ := hval
  exact ⟨cs, h1, h2⟩
 rw [cells47] at hz
 obtain ⟨fuel, hf⟩ := hd
 obtain ⟨xs, m, rfl, hx, -, hl, hE⟩ := DataW.trod_array Tryz.underlying47 hf
 obtain ⟨l⟩ := cs
 obtain ⟨c0, c1, c2, rfl⟩ := len3 (show l.length = 3 from hz)
 obtain ⟨x0, x1, x2, rfl⟩ := len3 hl
 have e0 := hE 0 (by omega)
 have e1 := hE 1 (by omega)
 have e2 := hE 2 (by omega)
 rw [cells3] at e0 e1 e2
 obtain ⟨z0, q0, f0, w0⟩ := DataW.trod_int Tryz.underlying3 (show DataW.trod enc Tryz.prog W base spare held m 3 [c0] = some x0 from e0)
 obtain ⟨z1, q1, f1, w1⟩ := DataW.trod_int Tryz.underlying3 (show DataW.trod enc Tryz.prog W base spare held m 3 [c1] = some x1 from e1)
 obtain ⟨z2, q2, f2, w2⟩ := DataW.trod_int Tryz.underlying3 (show DataW.trod enc Tryz.prog W base spare held m 3 [c2] = some x2 from e2)
 cases q0; cases q1; cases q2; subst f0; subst f1; subst f2
 cases hx
 exact ⟨z0, z1, z2, rfl, rfl, rfl, w0, w1, w2⟩
theorem open_box {r : Reach} {b0 : Nat} {v : Value} {d : DataW H} {ps : List MemPlace} (hval : Value.okWide Tryz.prog W r b0 23 v) (hd : DataW.Trod enc Tryz.prog W base spare held 23 v d ps) :
  ∃ a b c x y, v = .agg #[.int .i64 a, .int .i64 b, .int .i64 c, .int .i64 x, .int .i64 y] ∧ d = .agg [.lit (.int .i64 a), .lit (.int .i64 b), .lit (.int .i64 c), .lit (.int .i64 x), .lit (.int .i64 y)] ∧ ps = [] ∧ (Lit.int .i64 a).wf = true ∧ (Lit.int .i64 b).wf = true ∧ (Lit.int .i64 c).wf = true ∧ (Lit.int .i64 x).wf = true ∧ (Lit.int .i64 y).wf = true := by
 obtain ⟨cs, rfl, hz⟩ := okWide_struct Tryz.underlying23 hval
 rw [cells23] at hz
 obtain ⟨fuel, hf⟩ := hd
 obtain ⟨xs, m, rfl, hx, -, hl, hE⟩ := DataW.trod_struct Tryz.underlying23 hf
 obtain ⟨l⟩ := cs
 obtain ⟨c0, c1, c2, c3, c4, rfl⟩ := len5 (show l.length = 5 from hz)
 obtain ⟨x0, x1, x2, x3, x4, rfl⟩ := len5 (show xs.length = 5 from hl)
 have e0 : DataW.trod enc Tryz.prog W base spare held m 3 (([c0, c1, c2, c3, c4].drop 0).take (Tryz.prog.cellsOf 3)) = some x0 := hE 0 _ rfl
 have e1 : DataW.trod enc Tryz.prog W base spare held m 3 (([c0, c1, c2, c3, c4].drop 1).take (Tryz.prog.cellsOf 3)) = some x1 := hE 1 _ rfl
 have e2 : DataW.trod enc Tryz.prog W base spare held m 3 (([c0, c1, c2, c3, c4].drop 2).take (Tryz.prog.cellsOf 3)) = some x2 := hE 2 _ rfl
 have e3 : DataW.trod enc Tryz.prog W base spare held m 3 (([c0, c1, c2, c3, c4].drop 3).take (Tryz.prog.cellsOf 3)) = some x3 := hE 3 _ rfl
 have e4 : DataW.trod enc Tryz.prog W base spare held m 3 (([c0, c1, c2, c3, c4].drop 4).take (Tryz.prog.cellsOf 3)) = some x4 := hE 4 _ rfl
 rw [cells3] at e0 e1 e2 e3 e4
 obtain ⟨z0, q0, f0, w0⟩ := DataW.trod_int Tryz.underlying3 (show DataW.trod enc Tryz.prog W base spare held m 3 [c0] = some x0 from e0)
 obtain ⟨z1, q1, f1, w1⟩ := DataW.trod_int Tryz.underlying3 (show DataW.trod enc Tryz.prog W base spare held m 3 [c1] = some x1 from e1)
 obtain ⟨z2, q2, f2, w2⟩ := DataW.trod_int Tryz.underlying3 (show DataW.trod enc Tryz.prog W base spare held m 3 [c2] = some x2 from e2)
 obtain ⟨z3, q3, f3, w3⟩ := DataW.trod_int Tryz.underlying3 (show DataW.trod enc Tryz.prog W base spare held m 3 [c3] = some x3 from e3)
 obtain ⟨z4, q4, f4, w4⟩ := DataW.trod_int Tryz.underlying3 (show DataW.trod enc Tryz.prog W base spare held m 3 [c4] = some x4 from e4)
 cases q0; cases q1; cases q2; cases q3; cases q4; subst f0; subst f1; subst f2; subst f3; subst f4
 cases hx
 exact ⟨z0, z1, z2, z3, z4, rfl, rfl, rfl, w0, w1, w2, w3, w4⟩
theorem shut_ints3 {a b c : Int} (ha : (Lit.int .i64 a).wf = true) (hb : (Lit.int .i64 b).wf = true) (hc : (Lit.int .i64 c).wf = true) :
  DataW.Trod enc Tryz.prog W base spare held 47 (.agg #[.int .i64 a, .int .i64 b, .int .i64 c]) (.agg [.lit (.int .i64 a), .lit (.int .i64 b), .lit (.int .i64 c)]) [] :=
 ⟨2, by simp [DataW.trod, Value.cells, Tryz.underlying47, Tryz.underlying3, cells3, cells47, ha, hb, hc, List.range_succ]⟩
theorem shut_box {a b c x y : Int} (ha : (Lit.int .i64 a).wf = true) (hb : (Lit.int .i64 b).wf = true) (hc : (Lit.int .i64 c).wf = true) (hx : (Lit.int .i64 x).wf = true) (hy : (Lit.int .i64 y).wf = true) :
  DataW.Trod enc Tryz.prog W base spare held 23 (.agg #[.int .i64 a, .int .i64 b, .int .i64 c, .int .i64 x, .int .i64 y]) (.agg [.lit (.int .i64 a), .lit (.int .i64 b), .lit (.int .i64 c), .lit (.int .i64 x), .lit (.int .i64 y)]) [] :=
 ⟨2, by simp [DataW.trod, Value.cells, Tryz.underlying23, Tryz.underlying3, cells3, cells23, ha, hb, hc, hx, hy]⟩
end Go.Proofs.YtociicfjhgfgpaaGreatDoor
namespace Go.Proofs.YtociicfjhgfgpaaGreatDoor
open Go.RowKit Go.Shelf Go.Proofs.YtociicfjhgfgpaaGreatDoorW.PrintWords
theorem int_one (w : World) : Calls Tryz.prog 113 #[] w fun e w' => ∃ v, e = .returned v ∧ Rd w' v (digs 10000 1) ∧ Below w.heap.size w w' := by
 go_enter Tryz.func113, Tryz.ntmps113
 go_wp2
 go_ret
 refine ⟨_, rfl, ?_, bZa (Below.refl _ _) _⟩
 have h := (own_lit1 w w.heap.size 1 (Nat.le_refl _)).rd
 rw [show digs 10000 1 = [1] by rw [digs_pos (by decide) (by decide), digs_zero]; rfl]
 exact h
def CutPost {α β : Type} (act : α → β → Act) (G : α → β → World → Prop) : Exit → Act → World → Prop := fun e a' w' => match e with | .normal => ∃ x y, a' = act x y ∧ G x y w' | _ => False
theorem wp_cut2 {α β : Type} {P : Program} {c : Code} {Q : Exit → Act → World → Prop} {a : Act} {w : World} (G : α → β → World → Prop) (h : ∃ act : α → β → Act, c.wp P (CutPost act G) a w ∧ ∀ x y w', G x y w' → Q .normal (act x y) w') : c.wp P Q a w := by
 obtain ⟨act, h1, h2⟩ := h
 refine Code.wp_mono (fun e a' w' hg => ?_) h1
 cases e with
 | normal => obtain ⟨x, y, rfl, hg⟩ := hg; exact h2 x y _ hg
 | _ => exact hg.elim
def sgv (n : Bool) (x : Nat) : Int := if n then -(x : Int) else x
def Sg (W : World) (v : Value) (n : Bool) (x : Nat) : Prop := ∃ u, v = .agg #[.bool n, u] ∧ Rd W u (digs 10000 x)
theorem Sg.below {W W' : World} {v : Value} {n : Bool} {x : Nat} (h : Sg W v n x) (hb : Below W.heap.size W W') : Sg W' v n x := by
 obtain ⟨u, rfl, h⟩ := h
 exact ⟨u, rfl, h.below hb⟩
theorem int_splus (m n : Bool) (u v : Value) (x y : Nat) (w : World) (h1 : Rd w u (digs 10000 x)) (h2 : Rd w v (digs 10000 y)) (hl1 : (digs 10000 x).length ≤ 1000) (hl2 : (digs 10000 y).length ≤ 1000) :
  Calls Tryz.prog 121 #[.agg #[.bool m, u], .agg #[.bool n, v]] w fun e w' => ∃ a k z, e = .returned (.agg #[.bool k, a]) ∧ Rd w' a (digs 10000 z) ∧ sgv k z = sgv m x + sgv n y ∧ z ≤ x + y ∧ Below w.heap.size w w' := by
 obtain ⟨A, c, rfl, -, -⟩ := id h1
 obtain ⟨A2, c2, rfl, -, -⟩ := id h2
 generalize hla : (digs 10000 x).length = la at *
 generalize hlb : (digs 10000 y).length = lb at *
 obtain ⟨W0, hW0⟩ : ∃ W0, ((w.alloc (.cells #[.bool m, .slice A la c] 168)).alloc (.cells #[.bool n, .slice A2 lb c2] 168)).alloc (.cells #[.bool false, .slice none 0 0] 168) = W0 := ⟨_, rfl⟩
 have hB0 : Below w.heap.size w W0 := by rw [← hW0]; exact bZa (bZa (bZa (Below.refl _ _) _) _) _
 have hk0 : Blk W0 w.heap.size #[.bool m, .slice A la c] 168 := by rw [← hW0]; exact ((Blk.new w _ _).alloc _).alloc _
 have hk1 : Blk W0 (w.heap.size + 1) #[.bool n, .slice A2 lb c2] 168 := by
  rw [← hW0]
  have := (Blk.new (w.alloc (.cells #[.bool m, .slice A la c] 168)) #[.bool n, .slice A2 lb c2] 168).alloc (.cells #[.bool false, .slice none 0 0] 168)
  rwa [World.size_alloc] at this
 have hk2 : Blk W0 (w.heap.size + 2) #[.bool false, .slice none 0 0] 168 := by
  rw [← hW0]
  have := Blk.new ((w.alloc (.cells #[.bool m, .slice A la c] 168)).alloc (.cells #[.bool n, .slice A2 lb c2] 168)) #[.bool false, .slice none 0 0] 168
  rwa [World.size_alloc, World.size_alloc] at this
 have R1 := h1.below hB0
 have R2 := h2.below hB0
 have CM := fun W h h' => int_compare (.slice A la c) (.slice A2 lb c2) x y W h h' (by omega) (by omega)
 have PL := fun W h h' => int_plus (.slice A la c) (.slice A2 lb c2) x y W h h' (by omega) (by omega)
 have MI := fun W h h' (hle : y ≤ x) => int_minus (.slice A la c) (.slice A2 lb c2) x y W h h' (by omega) hle
 have MJ := fun W h h' (hle : x ≤ y) => int_minus (.slice A2 lb c2) (.slice A la c) y x W h h' (by omega) hle
 have c0 := hk0.cell 0
 have c01 := hk0.cell 1
 have c1 := hk1.cell 0
 have c11 := hk1.cell 1
 have D0 := hk0.drew
 have D1 := hk1.drew
 have D2 := hk2.drew
 have R1D := R1.below (bZd (Below.refl _ _))
 have R2D := R2.below (bZd (Below.refl _ _))
 by_cases hmn : m = n
 ·subst hmn
  go_enter Tryz.func121, Tryz.ntmps121
  go_wp2
  refine wp_cut2 (fun (A3 : Option Addr) (c3 : Nat) w' => ∃ w3, Rd w3 (.slice A3 (digs 10000 (x + y)).length c3) (digs 10000 (x + y)) ∧ Below W0.heap.size W0 w3 ∧ (∀ k, (Value.slice A3 (digs 10000 (x + y)).length c3).ownBlock = some k → W0.heap.size ≤ k) ∧ w' = (w3.setCell ⟨w.heap.size + 2, 0, none⟩ (.bool m)).setCell ⟨w.heap.size + 2, 1, none⟩ (.slice A3 (digs 10000 (x + y)).length c3)) ?_
  apply Exists.intro
  apply And.intro
  ·go_region_with (go_at_call 112; refine (PL _ R1D R2D).mono ?_; rintro e w3 ⟨v3, rfl, hv3, hb3, hw3⟩; have hc3 := (D0.below hb3).cell 0; have h23 := D2.below hb3; have hf3 := h23.frozen 0; have hf31 := h23.frozen 1; have hc23 := h23.cell 0; have hc231 := h23.cell 1; have HV3 := Aside0.mk hv3; obtain ⟨A3, c3, rfl, -, -⟩ := hv3)
   all_goals exact ⟨A3, c3, rfl, w3, HV3.out, bZs (bZd (Below.refl _ _)) hb3, hw3, rfl⟩
  ·rintro A3 c3 w' ⟨w3, hv3, hb3, hw3, rfl⟩
   go_wp2
   refine bodyPost_ret (results_cell_row rfl _ _ (w.heap.size + 2) 168 #[.bool m, .slice A3 (digs 10000 (x + y)).length c3] (0, 0) _ rfl (((hk2.below hb3).set 0 _).set 1 _) Tryz.underlying168 rfl (by kernel_rfl)) rfl ?_
   have hlt := hk2.lt
   refine ⟨_, m, x + y, rfl, (hv3.set (fun e => by have := hw3 _ e.symm; omega) 0 _).set (fun e => by have := hw3 _ e.symm; omega) 1 _, by cases m <;> simp [sgv]; omega, Nat.le_refl _, bZe (bZe (bZs hB0 hb3) (by simp)) (by simp)⟩
 ·by_cases hxy : y ≤ x
  ·have hcp : cmpN x y ≥ 0 := by
    unfold cmpN
    rw [if_neg (by omega)]
    split <;> omega
   have hmn' : (m == n) = false := by simpa using hmn
   obtain ⟨z, hz⟩ : ∃ z, x - y = z := ⟨_, rfl⟩
   have MI2 := fun W h h' => MI W h h' hxy
   rw [hz] at MI2
   clear MI MJ PL
   go_enter Tryz.func121, Tryz.ntmps121
   go_wp2_with (go_at_call 116; refine (CM _ R1 R2).mono ?_; clear CM; rintro e w2 ⟨rfl, hb2⟩; have c22 := (hk0.below hb2).cell 0; have c221 := (hk0.below hb2).cell 1; have c21 := (hk1.below hb2).cell 0; have c211 := (hk1.below hb2).cell 1)
   have E0 := (hk0.below hb2).drew
   have E2 := (hk2.below hb2).drew
   have R1E := (R1.below hb2).below (bZd (Below.refl _ _))
   have R2E := (R2.below hb2).below (bZd (Below.refl _ _))
   refine wp_cut2 (fun (A3 : Option Addr) (c3 : Nat) w' => ∃ w3, Rd w3 (.slice A3 (digs 10000 z).length c3) (digs 10000 z) ∧ Below w2.heap.size w2 w3 ∧ (∀ k, (Value.slice A3 (digs 10000 z).length c3).ownBlock = some k → w2.heap.size ≤ k) ∧ w' = (w3.setCell ⟨w.heap.size + 2, 0, none⟩ (.bool m)).setCell ⟨w.heap.size + 2, 1, none⟩ (.slice A3 (digs 10000 z).length c3)) ?_
   apply Exists.intro
   apply And.intro
   ·go_region_with (go_at_call 114; refine (MI2 _ R1E R2E).mono ?_; rintro e w3 ⟨v3, rfl, hv3, hb3, hw3⟩; have hc3 := (E0.below hb3).cell 0; have h23 := E2.below hb3; have hf3 := h23.frozen 0; have hf31 := h23.frozen 1; have hc23 := h23.cell 0; have hc231 := h23.cell 1; have HV3 := Aside0.mk hv3; obtain ⟨A3, c3, rfl, -, -⟩ := hv3)
    all_goals exact ⟨A3, c3, rfl, w3, HV3.out, bZs (bZd (Below.refl _ _)) hb3, hw3, rfl⟩
   ·rintro A3 c3 w' ⟨w3, hv3, hb3, hw3, rfl⟩
    go_wp2
    refine bodyPost_ret (results_cell_row rfl _ _ (w.heap.size + 2) 168 #[.bool m, .slice A3 (digs 10000 z).length c3] (0, 0) _ rfl ((((hk2.below hb2).below hb3).set 0 _).set 1 _) Tryz.underlying168 rfl (by kernel_rfl)) rfl ?_
    have hlt := hk2.lt
    have hlt2 := hb2.size
    refine ⟨_, m, z, rfl, (hv3.set (fun e => by have := hw3 _ e.symm; omega) 0 _).set (fun e => by have := hw3 _ e.symm; omega) 1 _, by cases m <;> cases n <;> simp [sgv] at hmn ⊢ <;> omega, by omega, bZe (bZe (bZs (bZs hB0 hb2) hb3) (by simp)) (by simp)⟩
  ·have hcp : ¬ cmpN x y ≥ 0 := by unfold cmpN; split <;> omega
   have hmn' : (m == n) = false := by simpa using hmn
   obtain ⟨z, hz⟩ : ∃ z, y - x = z := ⟨_, rfl⟩
   have MJ2 := fun W h h' => MJ W h h' (by omega)
   rw [hz] at MJ2
   clear MI MJ PL
   go_enter Tryz.func121, Tryz.ntmps121
   go_wp2_with (go_at_call 116; refine (CM _ R1 R2).mono ?_; clear CM; rintro e w2 ⟨rfl, hb2⟩; have c22 := (hk0.below hb2).cell 0; have c221 := (hk0.below hb2).cell 1; have c21 := (hk1.below hb2).cell 0; have c211 := (hk1.below hb2).cell 1)
   have E0 := (hk1.below hb2).drew
   have E2 := (hk2.below hb2).drew
   have R1E := (R1.below hb2).below (bZd (Below.refl _ _))
   have R2E := (R2.below hb2).below (bZd (Below.refl _ _))
   refine wp_cut2 (fun (A3 : Option Addr) (c3 : Nat) w' => ∃ w3, Rd w3 (.slice A3 (digs 10000 z).length c3) (digs 10000 z) ∧ Below w2.heap.size w2 w3 ∧ (∀ k, (Value.slice A3 (digs 10000 z).length c3).ownBlock = some k → w2.heap.size ≤ k) ∧ w' = (w3.setCell ⟨w.heap.size + 2, 0, none⟩ (.bool n)).setCell ⟨w.heap.size + 2, 1, none⟩ (.slice A3 (digs 10000 z).length c3)) ?_
   apply Exists.intro
   apply And.intro
   ·go_region_with (go_at_call 114; refine (MJ2 _ R2E R1E).mono ?_; rintro e w3 ⟨v3, rfl, hv3, hb3, hw3⟩; have hc3 := (E0.below hb3).cell 0; have h23 := E2.below hb3; have hf3 := h23.frozen 0; have hf31 := h23.frozen 1; have hc23 := h23.cell 0; have hc231 := h23.cell 1; have HV3 := Aside0.mk hv3; obtain ⟨A3, c3, rfl, -, -⟩ := hv3)
    all_goals exact ⟨A3, c3, rfl, w3, HV3.out, bZs (bZd (Below.refl _ _)) hb3, hw3, rfl⟩
   ·rintro A3 c3 w' ⟨w3, hv3, hb3, hw3, rfl⟩
    go_wp2
    refine bodyPost_ret (results_cell_row rfl _ _ (w.heap.size + 2) 168 #[.bool n, .slice A3 (digs 10000 z).length c3] (0, 0) _ rfl ((((hk2.below hb2).below hb3).set 0 _).set 1 _) Tryz.underlying168 rfl (by kernel_rfl)) rfl ?_
    have hlt := hk2.lt
    have hlt2 := hb2.size
    refine ⟨_, n, z, rfl, (hv3.set (fun e => by have := hw3 _ e.symm; omega) 0 _).set (fun e => by have := hw3 _ e.symm; omega) 1 _, by cases m <;> cases n <;> simp [sgv] at hmn ⊢ <;> omega, by omega, bZe (bZe (bZs (bZs hB0 hb2) hb3) (by simp)) (by simp)⟩
end Go.Proofs.YtociicfjhgfgpaaGreatDoor

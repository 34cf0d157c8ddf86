/- compute, must: the walks. Regions as plain data: formulas over the insides of curves, their values, the combination of two: plain facts. -/
import Derived.Test.YtociicfjhgfgpaaGreatDoorR20
import Derived.Test.YtociicfjhgfgpaaGreatDoorR11
import Derived.Test.YtociicfjhgfgpaaGreatDoorR01
set_option linter.unusedVariables false
set_option linter.unusedSimpArgs false
set_option maxRecDepth 100000
namespace Go.Proofs.YtociicfjhgfgpaaGreatDoor
open Go.RowKit Go.Proofs.YtociicfjhgfgpaaGreatDoorW.PrintWords
theorem pl_must (s1 s2 : ByteArray) (w : World) :
  Calls Tryz.prog 70 #[.agg #[.string s1, .string s2], .int .i64 0] w fun e w' => e = .returned (.agg #[.string s1, .string s2]) ∧ Below w.heap.size w w' := by
 have hB0 : Below w.heap.size w ((w.alloc (.cells #[.string s1, .string s2] 25)).alloc (.cells #[.string s1, .string s2] 25)) := bZa (bZa (Below.refl _ _) _) _
 have k1 : Blk ((w.alloc (.cells #[.string s1, .string s2] 25)).alloc (.cells #[.string s1, .string s2] 25)) (w.heap.size + 1) #[.string s1, .string s2] 25 := by
  have := Blk.new (w.alloc (.cells #[.string s1, .string s2] 25)) #[.string s1, .string s2] 25
  rwa [World.size_alloc] at this
 go_enter Tryz.func70, Tryz.ntmps70
 go_wp2_with (go_at_call 67; refine (pl_check_ok _).mono ?_; rintro e w2 ⟨rfl, rfl⟩)
 refine bodyPost_ret (rZs rfl (.cell (w.heap.size + 1) 25 #[.string s1, .string s2] (0, 0) _ rfl k1 Tryz.underlying25 rfl (by kernel_rfl) .nil)) rfl ?_
 exact ⟨rfl, hB0⟩
theorem pl_mustR (A B : Option Addr) (m c k d : Nat) (w : World) :
  Calls Tryz.prog 86 #[.agg #[.slice A m c, .slice B k d], .int .i64 0] w fun e w' => e = .returned (.agg #[.slice A m c, .slice B k d]) ∧ Below w.heap.size w w' := by
 have hB0 : Below w.heap.size w ((w.alloc (.cells #[.slice A m c, .slice B k d] 42)).alloc (.cells #[.slice A m c, .slice B k d] 42)) := bZa (bZa (Below.refl _ _) _) _
 have k1 : Blk ((w.alloc (.cells #[.slice A m c, .slice B k d] 42)).alloc (.cells #[.slice A m c, .slice B k d] 42)) (w.heap.size + 1) #[.slice A m c, .slice B k d] 42 := by
  have := Blk.new (w.alloc (.cells #[.slice A m c, .slice B k d] 42)) #[.slice A m c, .slice B k d] 42
  rwa [World.size_alloc] at this
 go_enter Tryz.func86, Tryz.ntmps86
 go_wp2_with (go_at_call 67; refine (pl_check_ok _).mono ?_; rintro e w2 ⟨rfl, rfl⟩)
 refine bodyPost_ret (rZs rfl (.cell (w.heap.size + 1) 42 #[.slice A m c, .slice B k d] (0, 0) _ rfl k1 Tryz.underlying42 rfl (by kernel_rfl) .nil)) rfl ?_
 exact ⟨rfl, hB0⟩
theorem mk_fn (fn : Fn) (first cap : Array Value) (w : World) : (Instr.makeFunc fn first cap).run Tryz.prog w = .ok (.func fn first cap) w := rfl
theorem cp34_bad (N : Nat) (first cap : Array Value) (a : Addr) (w : World) (hP : Plan w a) (h0 : 0 < w.heap.size) (eg : ∀ args w, (callFunc N args).run Tryz.prog w = .ok (.enter N args) w)
  (D : ∀ W, Below w.heap.size w W → Calls Tryz.prog N (first ++ cap) W fun e w' => e = .panicked (chain a false) ∧ Below W.heap.size W w') :
  Calls Tryz.prog 34 #[.func (.func N) first cap] w fun e w' => e = .returned (.tuple #[.agg #[.slice none 0 0, .slice none 0 0], .int .i64 290]) ∧ Below w.heap.size w w' := by
 have hB0 : Below w.heap.size w ((w.alloc (.cells #[.slice none 0 0, .slice none 0 0] 42)).alloc (.cells #[.int .i64 0] 35)) := bZa (bZa (Below.refl _ _) _) _
 have k0 : Blk ((w.alloc (.cells #[.slice none 0 0, .slice none 0 0] 42)).alloc (.cells #[.int .i64 0] 35)) w.heap.size #[.slice none 0 0, .slice none 0 0] 42 := (Blk.new w #[.slice none 0 0, .slice none 0 0] 42).alloc _
 have k1 : Blk ((w.alloc (.cells #[.slice none 0 0, .slice none 0 0] 42)).alloc (.cells #[.int .i64 0] 35)) (w.heap.size + 1) #[.int .i64 0] 35 := by
  have := Blk.new (w.alloc (.cells #[.slice none 0 0, .slice none 0 0] 42)) #[.int .i64 0] 35
  rwa [World.size_alloc] at this
 have hmf := mk_fn
 go_enter_defers Tryz.func34, Tryz.ntmps34
 go_wp2
 refine (D _ hB0).mono ?_
 rintro e w2 ⟨rfl, hb2⟩
 have hB2 := bZs hB0 hb2
 show Leaves _ _ _ _ _ _ _
 refine leaves_cons (f := 84) (args := #[.pointer (some ⟨w.heap.size, 0, none⟩), .pointer (some ⟨w.heap.size + 1, 0, none⟩)]) (by simp) (by simp [go_sem]) ?_
 refine (df84_panicking w.heap.size _ _ 0 a w2 (k0.below hb2) (k1.below hb2) (hP.below hB2 h0)).mono ?_
 rintro e u' w3 ⟨rfl, rfl, K0, K1, hB3⟩
 have c0 : w3.cell? ⟨w.heap.size, 0, none⟩ = some (.slice none 0 0) := K0.cell 0
 have c2 : w3.cell? ⟨w.heap.size, 1, none⟩ = some (.slice none 0 0) := K0.cell 1
 have c1 : w3.cell? ⟨w.heap.size + 1, 0, none⟩ = some (.int .i64 290) := K1.cell 0
 refine ⟨.tuple #[.agg #[.slice none 0 0, .slice none 0 0], .int .i64 290], ?_, rfl, hB3 w (Nat.le_refl _) hB2⟩
 simp [results, Tryz.results34, go_sem, c0, c2, c1]
theorem cp26_bad (N : Nat) (first cap : Array Value) (a : Addr) (w : World) (hP : Plan w a) (h0 : 0 < w.heap.size) (eg : ∀ args w, (callFunc N args).run Tryz.prog w = .ok (.enter N args) w)
  (D : ∀ W, Below w.heap.size w W → Calls Tryz.prog N (first ++ cap) W fun e w' => e = .panicked (chain a false) ∧ Below W.heap.size W w') :
  Calls Tryz.prog 26 #[.func (.func N) first cap] w fun e w' => e = .returned (.tuple #[.slice none 0 0, .int .i64 290]) ∧ Below w.heap.size w w' := by
 have hB0 : Below w.heap.size w ((w.alloc (.cells #[.slice none 0 0] 34)).alloc (.cells #[.int .i64 0] 35)) := bZa (bZa (Below.refl _ _) _) _
 have k0 : Blk ((w.alloc (.cells #[.slice none 0 0] 34)).alloc (.cells #[.int .i64 0] 35)) w.heap.size #[.slice none 0 0] 34 := (Blk.new w #[.slice none 0 0] 34).alloc _
 have k1 : Blk ((w.alloc (.cells #[.slice none 0 0] 34)).alloc (.cells #[.int .i64 0] 35)) (w.heap.size + 1) #[.int .i64 0] 35 := by
  have := Blk.new (w.alloc (.cells #[.slice none 0 0] 34)) #[.int .i64 0] 35
  rwa [World.size_alloc] at this
 have hmf := mk_fn
 go_enter_defers Tryz.func26, Tryz.ntmps26
 go_wp2
 refine (D _ hB0).mono ?_
 rintro e w2 ⟨rfl, hb2⟩
 have hB2 := bZs hB0 hb2
 show Leaves _ _ _ _ _ _ _
 refine leaves_cons (f := 64) (args := #[.pointer (some ⟨w.heap.size, 0, none⟩), .pointer (some ⟨w.heap.size + 1, 0, none⟩)]) (by simp) (by simp [go_sem]) ?_
 refine (df64_panicking w.heap.size _ 0 a w2 (k0.below hb2) (k1.below hb2) (hP.below hB2 h0)).mono ?_
 rintro e u' w3 ⟨rfl, rfl, K0, K1, hB3⟩
 have c0 : w3.cell? ⟨w.heap.size, 0, none⟩ = some (.slice none 0 0) := K0.cell 0
 have c1 : w3.cell? ⟨w.heap.size + 1, 0, none⟩ = some (.int .i64 290) := K1.cell 0
 refine ⟨.tuple #[.slice none 0 0, .int .i64 290], ?_, rfl, hB3 w (Nat.le_refl _) hB2⟩
 simp [results, Tryz.results26, go_sem, c0, c1]
theorem cp34_ok (N : Nat) (first cap : Array Value) (G : Value → World → Prop) (hG : ∀ (v : Value) (W : World) (g : Nat) (cs : Array Value) (t : TypeId) (i : Nat) (u : Value), (t = 42 ∨ t = 35) → Blk W g cs t → G v W → G v (W.setCell ⟨g, i, none⟩ u)) (w : World) (eg : ∀ args w, (callFunc N args).run Tryz.prog w = .ok (.enter N args) w)
  (D : ∀ W, Below w.heap.size w W → Calls Tryz.prog N (first ++ cap) W fun e w' => ∃ A m c B k d, e = .returned (.agg #[.slice A m c, .slice B k d]) ∧ G (.agg #[.slice A m c, .slice B k d]) w' ∧ Below W.heap.size W w') :
  Calls Tryz.prog 34 #[.func (.func N) first cap] w fun e w' => ∃ v, e = .returned (.tuple #[v, .int .i64 0]) ∧ G v w' ∧ Below w.heap.size w w' := by
 have hB0 : Below w.heap.size w ((w.alloc (.cells #[.slice none 0 0, .slice none 0 0] 42)).alloc (.cells #[.int .i64 0] 35)) := bZa (bZa (Below.refl _ _) _) _
 have k0 : Blk ((w.alloc (.cells #[.slice none 0 0, .slice none 0 0] 42)).alloc (.cells #[.int .i64 0] 35)) w.heap.size #[.slice none 0 0, .slice none 0 0] 42 := (Blk.new w #[.slice none 0 0, .slice none 0 0] 42).alloc _
 have k1 : Blk ((w.alloc (.cells #[.slice none 0 0, .slice none 0 0] 42)).alloc (.cells #[.int .i64 0] 35)) (w.heap.size + 1) #[.int .i64 0] 35 := by
  have := Blk.new (w.alloc (.cells #[.slice none 0 0, .slice none 0 0] 42)) #[.int .i64 0] 35
  rwa [World.size_alloc] at this
 have hmf := mk_fn
 have hne : w.heap.size + 1 ≠ w.heap.size := Nat.succ_ne_self _
 have hne' : w.heap.size ≠ w.heap.size + 1 := Ne.symm hne
 go_enter_defers Tryz.func34, Tryz.ntmps34
 go_wp2_with (refine (D _ hB0).mono ?_; rintro e w2 ⟨A, m, c, B, k, d, rfl, HG, hb2⟩; have hB2 := bZs hB0 hb2; have K0 := k0.below hb2; have K1 := ((k1.below hb2).far (p := ⟨w.heap.size, 0, none⟩) hne (.slice A m c)).far (p := ⟨w.heap.size, 1, none⟩) hne (.slice B k d); obtain ⟨p0, p1, p2, p3⟩ := K0.two; obtain ⟨q0, q1⟩ := K1.one)
 have hB3 := bZe (g := w.heap.size + 1) (j := 0) (v := .int .i64 0) (bZe (g := w.heap.size) (j := 1) (v := .slice B k d) (bZe (g := w.heap.size) (j := 0) (v := .slice A m c) hB2 (Nat.le_refl _)) (Nat.le_refl _)) (Nat.le_succ _)
 have L0 := (((k0.below hb2).set 0 (.slice A m c)).set 1 (.slice B k d)).far (p := ⟨w.heap.size + 1, 0, none⟩) hne' (.int .i64 0)
 have L1 := (((k1.below hb2).far (p := ⟨w.heap.size, 0, none⟩) hne (.slice A m c)).far (p := ⟨w.heap.size, 1, none⟩) hne (.slice B k d)).set 0 (.int .i64 0)
 have HG3 := hG _ _ _ _ _ 0 (.int .i64 0) (.inr rfl) (((k1.below hb2).far (p := ⟨w.heap.size, 0, none⟩) hne (.slice A m c)).far (p := ⟨w.heap.size, 1, none⟩) hne (.slice B k d)) (hG _ _ _ _ _ 1 (.slice B k d) (.inl rfl) ((k0.below hb2).set 0 (.slice A m c)) (hG _ _ _ _ _ 0 (.slice A m c) (.inl rfl) (k0.below hb2) (HG)))
 show Leaves _ _ _ _ _ _ _
 refine leaves_cons (f := 84) (args := #[.pointer (some ⟨w.heap.size, 0, none⟩), .pointer (some ⟨w.heap.size + 1, 0, none⟩)]) (by simp) (by simp [go_sem]) ?_
 refine (df84_idle _ _ _).mono ?_
 rintro e u' w3 ⟨rfl, rfl, rfl⟩
 refine ⟨.tuple #[.agg #[.slice A m c, .slice B k d], .int .i64 0], ?_, _, rfl, HG3, hB3⟩
 have c0 : (((w2.setCell ⟨w.heap.size, 0, none⟩ (.slice A m c)).setCell ⟨w.heap.size, 1, none⟩ (.slice B k d)).setCell ⟨w.heap.size + 1, 0, none⟩ (.int .i64 0)).cell? ⟨w.heap.size, 0, none⟩ = some (.slice A m c) := L0.cell 0
 have c1 : (((w2.setCell ⟨w.heap.size, 0, none⟩ (.slice A m c)).setCell ⟨w.heap.size, 1, none⟩ (.slice B k d)).setCell ⟨w.heap.size + 1, 0, none⟩ (.int .i64 0)).cell? ⟨w.heap.size, 1, none⟩ = some (.slice B k d) := L0.cell 1
 have c9 : (((w2.setCell ⟨w.heap.size, 0, none⟩ (.slice A m c)).setCell ⟨w.heap.size, 1, none⟩ (.slice B k d)).setCell ⟨w.heap.size + 1, 0, none⟩ (.int .i64 0)).cell? ⟨w.heap.size + 1, 0, none⟩ = some (.int .i64 0) := L1.cell 0
 generalize (((w2.setCell ⟨w.heap.size, 0, none⟩ (.slice A m c)).setCell ⟨w.heap.size, 1, none⟩ (.slice B k d)).setCell ⟨w.heap.size + 1, 0, none⟩ (.int .i64 0)) = w4 at *
 simp [results, Tryz.results34, go_sem, c0, c1, c9]
theorem cp26_ok (N : Nat) (first cap : Array Value) (G : Value → World → Prop) (hG : ∀ (v : Value) (W : World) (g : Nat) (cs : Array Value) (t : TypeId) (i : Nat) (u : Value), (t = 34 ∨ t = 35) → Blk W g cs t → G v W → G v (W.setCell ⟨g, i, none⟩ u)) (w : World) (eg : ∀ args w, (callFunc N args).run Tryz.prog w = .ok (.enter N args) w)
  (D : ∀ W, Below w.heap.size w W → Calls Tryz.prog N (first ++ cap) W fun e w' => ∃ A m c, e = .returned (.slice A m c) ∧ G (.slice A m c) w' ∧ Below W.heap.size W w') :
  Calls Tryz.prog 26 #[.func (.func N) first cap] w fun e w' => ∃ v, e = .returned (.tuple #[v, .int .i64 0]) ∧ G v w' ∧ Below w.heap.size w w' := by
 have hB0 : Below w.heap.size w ((w.alloc (.cells #[.slice none 0 0] 34)).alloc (.cells #[.int .i64 0] 35)) := bZa (bZa (Below.refl _ _) _) _
 have k0 : Blk ((w.alloc (.cells #[.slice none 0 0] 34)).alloc (.cells #[.int .i64 0] 35)) w.heap.size #[.slice none 0 0] 34 := (Blk.new w #[.slice none 0 0] 34).alloc _
 have k1 : Blk ((w.alloc (.cells #[.slice none 0 0] 34)).alloc (.cells #[.int .i64 0] 35)) (w.heap.size + 1) #[.int .i64 0] 35 := by
  have := Blk.new (w.alloc (.cells #[.slice none 0 0] 34)) #[.int .i64 0] 35
  rwa [World.size_alloc] at this
 have hmf := mk_fn
 have hne : w.heap.size + 1 ≠ w.heap.size := Nat.succ_ne_self _
 have hne' : w.heap.size ≠ w.heap.size + 1 := Ne.symm hne
 go_enter_defers Tryz.func26, Tryz.ntmps26
 go_wp2_with (refine (D _ hB0).mono ?_; rintro e w2 ⟨A, m, c, rfl, HG, hb2⟩; have hB2 := bZs hB0 hb2; have K0 := k0.below hb2; have K1 := (k1.below hb2).far (p := ⟨w.heap.size, 0, none⟩) hne (.slice A m c); obtain ⟨p0, p1⟩ := K0.one; obtain ⟨q0, q1⟩ := K1.one)
 have hB3 := bZe (g := w.heap.size + 1) (j := 0) (v := .int .i64 0) (bZe (g := w.heap.size) (j := 0) (v := .slice A m c) hB2 (Nat.le_refl _)) (Nat.le_succ _)
 have L0 := ((k0.below hb2).set 0 (.slice A m c)).far (p := ⟨w.heap.size + 1, 0, none⟩) hne' (.int .i64 0)
 have L1 := ((k1.below hb2).far (p := ⟨w.heap.size, 0, none⟩) hne (.slice A m c)).set 0 (.int .i64 0)
 have HG3 := hG _ _ _ _ _ 0 (.int .i64 0) (.inr rfl) ((k1.below hb2).far (p := ⟨w.heap.size, 0, none⟩) hne (.slice A m c)) (hG _ _ _ _ _ 0 (.slice A m c) (.inl rfl) (k0.below hb2) (HG))
 show Leaves _ _ _ _ _ _ _
 refine leaves_cons (f := 64) (args := #[.pointer (some ⟨w.heap.size, 0, none⟩), .pointer (some ⟨w.heap.size + 1, 0, none⟩)]) (by simp) (by simp [go_sem]) ?_
 refine (df64_idle _ _ _).mono ?_
 rintro e u' w3 ⟨rfl, rfl, rfl⟩
 refine ⟨.tuple #[.slice A m c, .int .i64 0], ?_, _, rfl, HG3, hB3⟩
 have c0 : ((w2.setCell ⟨w.heap.size, 0, none⟩ (.slice A m c)).setCell ⟨w.heap.size + 1, 0, none⟩ (.int .i64 0)).cell? ⟨w.heap.size, 0, none⟩ = some (.slice A m c) := L0.cell 0
 have c9 : ((w2.setCell ⟨w.heap.size, 0, none⟩ (.slice A m c)).setCell ⟨w.heap.size + 1, 0, none⟩ (.int .i64 0)).cell? ⟨w.heap.size + 1, 0, none⟩ = some (.int .i64 0) := L1.cell 0
 generalize ((w2.setCell ⟨w.heap.size, 0, none⟩ (.slice A m c)).setCell ⟨w.heap.size + 1, 0, none⟩ (.int .i64 0)) = w4 at *
 simp [results, Tryz.results26, go_sem, c0, c9]
end Go.Proofs.YtociicfjhgfgpaaGreatDoor
namespace Go.Proofs.YtociicfjhgfgpaaGreatDoor
open Go.Proofs.YtociicfjhgfgpaaGreatDoorW.PrintWords
abbrev Cv := Int × Rat × Rat × Rat
abbrev Nd := Int × Int × Int × Int
abbrev Rg := List Cv × List Nd
def ndV (ins vs : List Bool) (n : Nd) : Bool :=
 if n.1 = 1 then ins.getD n.2.1.toNat false
 else if n.1 = 2 then vs.getD n.2.2.1.toNat false || vs.getD n.2.2.2.toNat false
 else if n.1 = 3 then vs.getD n.2.2.1.toNat false && vs.getD n.2.2.2.toNat false
 else vs.getD n.2.2.1.toNat false && !vs.getD n.2.2.2.toNat false
def evN (ins : List Bool) : List Nd → List Bool → List Bool
 | [], vs => vs
 | n :: ns, vs => evN ins ns (vs ++ [ndV ins vs n])
def inR (f : Cv → Bool) (r : Rg) : Bool := (evN (r.1.map f) r.2 []).getLastD false
def okNd (nc i : Nat) (n : Nd) : Prop :=
 (n.1 = 1 ∧ 0 ≤ n.2.1 ∧ n.2.1 < nc ∧ n.2.2.1 = 0 ∧ n.2.2.2 = 0) ∨ ((n.1 = 2 ∨ n.1 = 3 ∨ n.1 = 4) ∧ n.2.1 = 0 ∧ 0 ≤ n.2.2.1 ∧ n.2.2.1 < i ∧ 0 ≤ n.2.2.2 ∧ n.2.2.2 < i)
def okCv (c : Cv) : Prop := (c.1 = 1 ∧ ((c.2.1 = 1 ∨ c.2.1 = -1) ∨ (c.2.1 = 0 ∧ (c.2.2.1 = 1 ∨ c.2.2.1 = -1)))) ∨ (c.1 = 2 ∧ 0 < c.2.2.2)
def smCv (k : Nat) (c : Cv) : Prop := Sm k c.2.1 ∧ Sm k c.2.2.1 ∧ Sm k c.2.2.2
def okNds (nc : Nat) : Nat → List Nd → Prop
 | _, [] => True
 | i, n :: ns => okNd nc i n ∧ okNds nc (i + 1) ns
structure okR (r : Rg) : Prop where
 nc : r.1.length ≤ 24
 nn : r.2.length ≤ 120
 some : r.2 = [] → r.1 = []
 nodup : r.1.Nodup
 cv : ∀ c ∈ r.1, okCv c
 nd : okNds r.1.length 0 r.2
theorem okNds_app (nc : Nat) : ∀ (xs ys : List Nd) (i : Nat), okNds nc i (xs ++ ys) ↔ okNds nc i xs ∧ okNds nc (i + xs.length) ys
 | [], ys, i => by simp [okNds]
 | x :: xs, ys, i => by
  have := okNds_app nc xs ys (i + 1)
  simp only [List.cons_append, okNds, this, List.length_cons]
  rw [show i + 1 + xs.length = i + (xs.length + 1) by omega]
  constructor
  ·rintro ⟨h1, h2, h3⟩; exact ⟨⟨h1, h2⟩, h3⟩
  ·rintro ⟨⟨h1, h2⟩, h3⟩; exact ⟨h1, h2, h3⟩
theorem okNd_mono {nc mc i : Nat} {n : Nd} (h : okNd nc i n) (hm : nc ≤ mc) : okNd mc i n := by
 rcases h with ⟨h1, h2, h3, h4⟩ | h
 ·exact .inl ⟨h1, h2, by omega, h4⟩
 ·exact .inr h
theorem okNds_mono {nc mc : Nat} (hm : nc ≤ mc) : ∀ {ns : List Nd} {i : Nat}, okNds nc i ns → okNds mc i ns
 | [], _, _ => trivial
 | _ :: _, _, h => ⟨okNd_mono h.1 hm, okNds_mono hm h.2⟩
theorem okNds_get {nc : Nat} : ∀ {ns : List Nd} {i j : Nat} {n : Nd}, okNds nc i ns → ns[j]? = some n → okNd nc (i + j) n
 | [], _, _, _, _, h => by simp at h
 | m :: ns, i, 0, n, h, e => by
  have : m = n := by simpa using e
  subst this
  exact h.1
 | m :: ns, i, j + 1, n, h, e => by
  have := okNds_get (i := i + 1) (j := j) h.2 (by simpa using e)
  rwa [show i + 1 + j = i + (j + 1) by omega] at this
theorem evN_app (ins : List Bool) : ∀ (xs ys : List Nd) (vs : List Bool), evN ins (xs ++ ys) vs = evN ins ys (evN ins xs vs)
 | [], _, _ => rfl
 | x :: xs, ys, vs => evN_app ins xs ys _
theorem evN_len (ins : List Bool) : ∀ (ns : List Nd) (vs : List Bool), (evN ins ns vs).length = vs.length + ns.length
 | [], vs => by simp [evN]
 | n :: ns, vs => by
  have := evN_len ins ns (vs ++ [ndV ins vs n])
  simp only [evN, this, List.length_append, List.length_cons, List.length_nil]
  omega
theorem evN_more (ins more : List Bool) : ∀ (ns : List Nd) (vs : List Bool), okNds ins.length vs.length ns → evN (ins ++ more) ns vs = evN ins ns vs
 | [], _, _ => rfl
 | n :: ns, vs, h => by
  have hn : ndV (ins ++ more) vs n = ndV ins vs n := by
   unfold ndV
   split
   ·rename_i h1
    rcases h.1 with ⟨_, h2, h3, _⟩ | ⟨h2, _⟩
    ·rw [List.getD_eq_getElem?_getD, List.getD_eq_getElem?_getD, List.getElem?_append_left (by omega)]
    ·omega
   ·rfl
  have h2 : okNds ins.length (vs ++ [ndV ins vs n]).length ns := by simpa using h.2
  have := evN_more ins more ns _ h2
  unfold evN
  rw [hn, this]
def shN (g : Nat → Nat) (k : Nat) (n : Nd) : Nd := if n.1 = 1 then (n.1, (g n.2.1.toNat : Int), n.2.2.1, n.2.2.2) else (n.1, n.2.1, n.2.2.1 + k, n.2.2.2 + k)
theorem evN_shift (ins ins2 : List Bool) (g : Nat → Nat) (us : List Bool) (hg : ∀ i, i < ins2.length → ins.getD (g i) false = ins2.getD i false) : ∀ (ns : List Nd) (vs : List Bool), okNds ins2.length vs.length ns →
  evN ins (ns.map (shN g us.length)) (us ++ vs) = us ++ evN ins2 ns vs
 | [], _, _ => rfl
 | n :: ns, vs, h => by
  have far : ∀ z : Int, 0 ≤ z → z < vs.length → (us ++ vs).getD (z + (us.length : Int)).toNat false = vs.getD z.toNat false := by
   intro z h0 h1
   rw [List.getD_eq_getElem?_getD, List.getD_eq_getElem?_getD, List.getElem?_append_right (by omega)]
   congr 2
   omega
  have hn : ndV ins (us ++ vs) (shN g us.length n) = ndV ins2 vs n := by
   unfold shN
   rcases h.1 with ⟨h1, h2, h3, _⟩ | ⟨h1, h2, h3, h4, h5, h6⟩
   ·rw [if_pos h1]
    unfold ndV
    rw [if_pos h1, if_pos h1]
    simp only [Int.toNat_natCast]
    exact hg _ (by omega)
   ·rw [if_neg (by omega)]
    unfold ndV
    simp only [far _ h3 h4, far _ h5 h6, if_neg (show ¬ n.1 = 1 by omega)]
  have h2 : okNds ins2.length (vs ++ [ndV ins2 vs n]).length ns := by simpa using h.2
  have := evN_shift ins ins2 g us hg ns _ h2
  simp only [List.map_cons]
  unfold evN
  rw [hn, List.append_assoc, this]
def cmbC (a b : Rg) : List Cv := a.1 ++ b.1.filter (fun c => decide (c ∉ a.1))
def plc (a b : Rg) (i : Nat) : Nat := (cmbC a b).idxOf (b.1.getD i (0, 0, 0, 0))
def cmb2 (op : Int) (a b : Rg) : Rg := (cmbC a b, a.2 ++ b.2.map (shN (plc a b) a.2.length) ++ [(op, 0, (a.2.length : Int) - 1, (a.2.length : Int) + b.2.length - 1)])
def cmb (op : Int) (a b : Rg) : Rg :=
 if b.2 = [] ∧ op ≠ 3 then a else if a.2 = [] ∧ op = 2 then b else if a.2 = [] ∨ b.2 = [] then ([], []) else cmb2 op a b
theorem mem_cmbC (a b : Rg) (c : Cv) : c ∈ cmbC a b ↔ c ∈ a.1 ∨ c ∈ b.1 := by
 unfold cmbC
 rw [List.mem_append, List.mem_filter]
 constructor
 ·rintro (h | h)
  ·exact .inl h
  ·exact .inr h.1
 ·rintro (h | h)
  ·exact .inl h
  ·by_cases ha : c ∈ a.1
   ·exact .inl ha
   ·exact .inr ⟨h, by simpa using ha⟩
theorem cmbC_nodup {a b : Rg} (ha : a.1.Nodup) (hb : b.1.Nodup) : (cmbC a b).Nodup := by
 unfold cmbC
 rw [List.nodup_append]
 refine ⟨ha, hb.sublist List.filter_sublist, ?_⟩
 rintro x hx y hy rfl
 have := (List.mem_filter.1 hy).2
 simp only [decide_eq_true_eq] at this
 exact this hx
theorem cmbC_le (a b : Rg) : (cmbC a b).length ≤ a.1.length + b.1.length := by
 unfold cmbC
 rw [List.length_append]
 have := List.length_filter_le (fun c => decide (c ∉ a.1)) b.1
 omega
theorem plc_lt {a b : Rg} {i : Nat} (h : i < b.1.length) : plc a b i < (cmbC a b).length := by
 unfold plc
 refine List.idxOf_lt_length_of_mem ((mem_cmbC a b _).2 (.inr ?_))
 rw [List.getD_eq_getElem?_getD, List.getElem?_eq_getElem h]
 exact List.getElem_mem h
theorem plc_at {a b : Rg} {i : Nat} (h : i < b.1.length) : (cmbC a b)[plc a b i]? = b.1[i]? := by
 have hl := plc_lt (a := a) h
 rw [List.getElem?_eq_getElem hl, List.getElem?_eq_getElem h]
 congr 1
 unfold plc at *
 have e := List.getElem_idxOf hl
 rw [e, List.getD_eq_getElem?_getD, List.getElem?_eq_getElem h]
 rfl
theorem okNds_shift {nc mc k : Nat} {g : Nat → Nat} (hg : ∀ i, i < nc → g i < mc) : ∀ {ns : List Nd} {i : Nat}, okNds nc i ns → okNds mc (k + i) (ns.map (shN g k))
 | [], _, _ => trivial
 | n :: ns, i, h => by
  refine ⟨?_, okNds_shift (i := i + 1) hg h.2⟩
  unfold shN
  rcases h.1 with ⟨h1, h2, h3, h4, h5⟩ | ⟨h1, h2, h3, h4, h5, h6⟩
  ·rw [if_pos h1]
   have := hg n.2.1.toNat (by omega)
   exact .inl ⟨h1, by simp only; omega, by simp only; omega, h4, h5⟩
  ·rw [if_neg (by omega)]
   exact .inr ⟨h1, h2, by simp only; omega, by simp only; omega, by simp only; omega, by simp only; omega⟩
theorem ok_cmb2 {op : Int} {a b : Rg} (hop : op = 2 ∨ op = 3 ∨ op = 4) (ha : okR a) (hb : okR b) (na : a.2 ≠ []) (nb : b.2 ≠ []) (h1 : (cmb2 op a b).1.length ≤ 24) (h2 : (cmb2 op a b).2.length ≤ 120) : okR (cmb2 op a b) := by
 have la : 0 < a.2.length := List.length_pos_iff.2 na
 have lb : 0 < b.2.length := List.length_pos_iff.2 nb
 refine ⟨h1, h2, fun h => ?_, cmbC_nodup ha.nodup hb.nodup, fun c hc => ?_, ?_⟩
 ·unfold cmb2 at h
  simp at h
 ·rcases (mem_cmbC a b c).1 hc with h | h
  ·exact ha.cv c h
  ·exact hb.cv c h
 ·unfold cmb2
  rw [okNds_app, okNds_app]
  refine ⟨⟨okNds_mono (by simp [cmbC]) ha.nd, ?_⟩, ?_⟩
  ·have := okNds_shift (k := a.2.length) (fun i hi => plc_lt (a := a) (b := b) hi) hb.nd
   rwa [Nat.zero_add]
  ·refine ⟨.inr ⟨hop, rfl, ?_⟩, trivial⟩
   simp only [List.length_append, List.length_map]
   omega
theorem ok_cmb {op : Int} {a b : Rg} (hop : op = 2 ∨ op = 3 ∨ op = 4) (ha : okR a) (hb : okR b) (h1 : (cmb op a b).1.length ≤ 24) (h2 : (cmb op a b).2.length ≤ 120) : okR (cmb op a b) := by
 unfold cmb at *
 split
 ·exact ha
 ·split
  ·exact hb
  ·split
   ·exact ⟨by simp, by simp, fun _ => rfl, by simp, by simp, trivial⟩
   ·rename_i e1 e2 e3
    rw [if_neg e1, if_neg e2, if_neg e3] at h1 h2
    exact ok_cmb2 hop ha hb (fun e => e3 (.inl e)) (fun e => e3 (.inr e)) h1 h2
theorem last_app (us vs : List Bool) (h : vs ≠ []) : (us ++ vs).getLastD false = vs.getLastD false := by
 rw [List.getLastD_eq_getLast?, List.getLastD_eq_getLast?, List.getLast?_append, List.getLast?_eq_some_getLast h]
 rfl
theorem last_get (vs : List Bool) : vs.getD (vs.length - 1) false = vs.getLastD false := by
 rw [List.getLastD_eq_getLast?, List.getD_eq_getElem?_getD, List.getLast?_eq_getElem?]
theorem inR_nil (f : Cv → Bool) (cs : List Cv) : inR f (cs, []) = false := rfl
def opV (op : Int) (x y : Bool) : Bool := if op = 2 then x || y else if op = 3 then x && y else x && !y
theorem inR_cmb2 (f : Cv → Bool) {op : Int} {a b : Rg} (hop : op = 2 ∨ op = 3 ∨ op = 4) (ha : okR a) (hb : okR b) (na : a.2 ≠ []) (nb : b.2 ≠ []) : inR f (cmb2 op a b) = opV op (inR f a) (inR f b) := by
 have la : 0 < a.2.length := List.length_pos_iff.2 na
 have lb : 0 < b.2.length := List.length_pos_iff.2 nb
 unfold inR cmb2
 simp only
 rw [evN_app, evN_app]
 have e1 : (cmbC a b).map f = a.1.map f ++ (b.1.filter (fun c => decide (c ∉ a.1))).map f := by unfold cmbC; rw [List.map_append]
 have m1 : evN ((cmbC a b).map f) a.2 [] = evN (a.1.map f) a.2 [] := by
  rw [e1]
  exact evN_more _ _ _ _ (by simpa using ha.nd)
 have l1 : (evN (a.1.map f) a.2 []).length = a.2.length := by rw [evN_len]; simp
 have l2 : (evN (b.1.map f) b.2 []).length = b.2.length := by rw [evN_len]; simp
 have m2 : evN ((cmbC a b).map f) (b.2.map (shN (plc a b) a.2.length)) (evN (a.1.map f) a.2 []) = evN (a.1.map f) a.2 [] ++ evN (b.1.map f) b.2 [] := by
  have := evN_shift ((cmbC a b).map f) (b.1.map f) (plc a b) (evN (a.1.map f) a.2 []) (fun i hi => ?_) b.2 [] (by simpa using hb.nd)
  ·rwa [l1, List.append_nil] at this
  ·rw [List.length_map] at hi
   rw [List.getD_eq_getElem?_getD, List.getD_eq_getElem?_getD, List.getElem?_map, List.getElem?_map, plc_at hi]
 rw [m1, m2]
 generalize hA : evN (a.1.map f) a.2 [] = A at *
 generalize hB : evN (b.1.map f) b.2 [] = B at *
 have nB : B ≠ [] := fun e => by rw [e] at l2; simp at l2; omega
 show ((A ++ B) ++ [ndV _ (A ++ B) _]).getLastD false = _
 rw [last_app _ _ (by simp)]
 show ndV _ (A ++ B) _ = _
 have gA : (A ++ B).getD ((a.2.length : Int) - 1).toNat false = A.getLastD false := by
  rw [← last_get, List.getD_eq_getElem?_getD, List.getD_eq_getElem?_getD, List.getElem?_append_left (by omega)]
  congr 2
  omega
 have gB : (A ++ B).getD ((a.2.length : Int) + b.2.length - 1).toNat false = B.getLastD false := by
  rw [← last_get, List.getD_eq_getElem?_getD, List.getD_eq_getElem?_getD, List.getElem?_append_right (by omega)]
  congr 2
  omega
 unfold ndV opV
 simp only
 rw [gA, gB]
 rcases hop with rfl | rfl | rfl <;> simp
theorem inR_cmb (f : Cv → Bool) {op : Int} {a b : Rg} (hop : op = 2 ∨ op = 3 ∨ op = 4) (ha : okR a) (hb : okR b) : inR f (cmb op a b) = opV op (inR f a) (inR f b) := by
 unfold cmb
 split
 ·rename_i h
  have : inR f b = false := by unfold inR; rw [h.1]; rfl
  rw [this]
  unfold opV
  rcases hop with rfl | rfl | rfl
  ·simp
  ·exact absurd rfl h.2
  ·simp
 ·split
  ·rename_i h
   have : inR f a = false := by unfold inR; rw [h.1]; rfl
   rw [this, h.2]
   simp [opV]
  ·split
   ·rename_i e1 e2 h
    have hn : inR f (([], []) : Rg) = false := rfl
    rw [hn]
    rcases h with h | h
    ·have : inR f a = false := by unfold inR; rw [h]; rfl
     rw [this]
     unfold opV
     rw [if_neg (fun e => e2 ⟨h, e⟩)]
     simp
    ·have : inR f b = false := by unfold inR; rw [h]; rfl
     rw [this]
     have h3 : op = 3 := by
      rcases Classical.em (op = 3) with e | e
      ·exact e
      ·exact absurd ⟨h, e⟩ e1
     subst h3
     simp [opV]
   ·rename_i e1 e2 e3
    exact inR_cmb2 f hop ha hb (fun e => e3 (.inl e)) (fun e => e3 (.inr e))
end Go.Proofs.YtociicfjhgfgpaaGreatDoor

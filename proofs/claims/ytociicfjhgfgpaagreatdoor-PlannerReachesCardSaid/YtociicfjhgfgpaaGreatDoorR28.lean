/- region: Contains: the walk. region: half: the walk. slices.Clone of curves, of nodes: the walks. region: copied: the walk. The formula that is the intersection of n curves: plain facts. region: intersection: the walk. -/
import Derived.Test.YtociicfjhgfgpaaGreatDoorR27
import Derived.Test.YtociicfjhgfgpaaGreatDoorR22
set_option linter.unusedVariables false
set_option linter.unusedSimpArgs false
set_option maxHeartbeats 16000000
set_option maxRecDepth 100000
namespace Go.Proofs.YtociicfjhgfgpaaGreatDoor
open Go.RowKit Go.Shelf Go.Lib Go.Proofs.YtociicfjhgfgpaaGreatDoorW.PrintWords
theorem side_cmp (x y : Rat) (c : Cv) : decide (cmpR c.2.2.2 (distR c x y) ≥ 0) = sideR x y c := by
 unfold sideR cmpR
 rw [Bool.eq_iff_iff]
 simp only [decide_eq_true_eq]
 split
 ·rename_i h
  constructor
  ·intro h2; omega
  ·intro h2; grind
 ·split
  ·rename_i h1 h2
   constructor
   ·intro _; grind
   ·intro _; omega
  ·rename_i h1 h2
   constructor
   ·intro _; grind
   ·intro _; omega
theorem wrap_succ {i n : Nat} (h : i < n) (h2 : n ≤ 24) : wrap64 ((i : Int) + 1) = ((i + 1 : Nat) : Int) := by unfold wrap64; omega
theorem map_take {α β : Type} (f : α → β) (xs : List α) (i : Nat) (z : α) (hi : i < xs.length) : (xs.take (i + 1)).map f = (xs.take i).map f ++ [f (xs.getD i z)] := by
 rw [List.take_succ_eq_append_getElem hi, List.map_append, List.getD_eq_getElem?_getD, List.getElem?_eq_getElem hi]
 rfl
theorem rg_Contains (k : Nat) (v : Value) (r : Rg) (x y : Rat) (w : World) (hp : Pow w) (h1 : 1 ≤ k) (hk8 : 8 * k + 4 ≤ 89) (hv : RdR w v r) (hok : okR r) (hs : ∀ c ∈ r.1, smCv k c) (hx : Sm k x) (hy : Sm k y) :
  Calls Tryz.prog 17 #[v, rv x, rv y] w fun e w' => e = .returned (.tuple #[.bool (inR (sideR x y) r), .int .i64 0]) ∧ Below w.heap.size w w' := by
 have hsq : ∀ c ∈ r.1, SqC c := fun c hc => ⟨(hs c hc).1.le (by omega), (hs c hc).2.1.le (by omega), (hs c hc).2.2.le (by omega)⟩
 have hxs : Sq x := hx.le (by omega)
 have hys : Sq y := hy.le (by omega)
 have V := fun W hp hv => rg_Valid v r W hp hv hok hsq
 have EV := fun vI W hp hv hI => rg_Evaluate v vI r (r.1.map (sideR x y)) W hp hv hok hsq hI (by simp)
 have SD := fun c W hp (hc : c ∈ r.1) => rg_Side k c x y W hp h1 hk8 (hok.cv c hc) (hs c hc) hx hy
 have F := fun A n W hp hq hc => rg_fracs A n [x, y] W hp hq hc (fun q hq => by
  simp only [List.mem_cons, List.not_mem_nil, or_false] at hq
  rcases hq with rfl | rfl
  ·exact hxs
  ·exact hys)
 have HC := fun (W : World) (g : Nat) (hk : Blk W g #[.string (itx x.num), .string (itx x.den), .string (itx y.num), .string (itx y.den)] 25) => flat_blk (n := 2) (enc := encQ) (hl := fun _ => rfl) (h1 := fun x u hu => by simp [encQ] at hu; rcases hu with rfl | rfl <;> rfl) [x, y] hk rfl (by simp)
 have hv' := hv
 have hnc := hok.nc
 have hres : inR (sideR x y) r = lastB (evN (r.1.map (sideR x y)) r.2 []) := rfl
 rw [hres]
 clear hok hs hx hy hsq hxs hys hres
 obtain ⟨cs, ns⟩ := r
 obtain ⟨u, n, rfl, ⟨A, c, rfl, hc, hq⟩, ⟨B, d, rfl, hd, hn⟩⟩ := hv
 dsimp only at *
 have hqm := hq.2.1
 obtain ⟨f, hf⟩ : ∃ f, sideR x y = f := ⟨_, rfl⟩
 have SC := fun c => side_cmp x y c
 simp only [hf] at SC EV ⊢
 clear hf
 generalize lastB (evN (cs.map f) ns []) = res at *
 unfold rv at *
 generalize itx x.num = x1 at *
 generalize itx (x.den : Int) = x2 at *
 generalize itx y.num = y1 at *
 generalize itx (y.den : Int) = y2 at *
 obtain ⟨hB0, k0, k1, k2⟩ := news3 w #[.slice A cs.length c, .slice B ns.length d] 42 #[.string x1, .string x2] 25 #[.string y1, .string y2] 25
 go_enter Tryz.func17, Tryz.ntmps17
 go_wp2_with (first | (go_at_call 40; refine (V _ (hp.below hB0) (hv'.below hB0)).mono ?_; clear V; rintro e w2 ⟨rfl, hb2⟩; have hB2 := bZs hB0 hb2; have K0 := k0.below hb2; have K1 := k1.below hb2; have K2 := k2.below hb2; obtain ⟨f0, f1, _, _⟩ := K1.two; obtain ⟨g0, g1, _, _⟩ := K2.two) | (go_at_call 41; refine (F _ 2 _ (hp.below (bZa hB2 _)) (HC _ _ (Blk.new _ _ _)) (by simp)).mono ?_; clear F HC; rintro e w3 ⟨rfl, hb3⟩; have hB3 := bZs (bZa hB2 (.cells #[.string x1, .string x2, .string y1, .string y2] 25)) hb3; have L0 := (K0.alloc (.cells #[.string x1, .string x2, .string y1, .string y2] 25)).below hb3; have L1 := (K1.alloc (.cells #[.string x1, .string x2, .string y1, .string y2] 25)).below hb3; have L2 := (K2.alloc (.cells #[.string x1, .string x2, .string y1, .string y2] 25)).below hb3; have l0 := L0.cell 0))
 go_loopg [26, 8] cs.length (fun m v26 v8 w' => ∃ (i : Nat) (vI : Value), v26 = .int .i64 i ∧ i + m = cs.length ∧ vI = v8 ∧ OwnK Kd.bool 4 w' w.heap.size vI ((cs.take i).map f) ∧ Blk w' w.heap.size #[.slice A cs.length c, .slice B ns.length d] 42 ∧ Blk w' (w.heap.size + 1) #[.string x1, .string x2] 25 ∧ Blk w' (w.heap.size + 2) #[.string y1, .string y2] 25 ∧ Below w.heap.size w w')
 case atStart => exact ⟨0, _, rfl, Nat.zero_add _, rfl, OwnK.nil _ _ _ _, L0, L1, L2, hB3⟩
 clear L0 L1 L2 hB3 l0 K0 K1 K2 f0 f1 g0 g1 hB2 k0 k1 k2 hB0
 obtain ⟨i, vI, rfl, hi, rfl, HO, k0, k1, k2, HB⟩ := hrel
 cases gk with
 | zero =>
  have hlt : decide ((i : Int) < (cs.length : Int)) = false := decide_eq_false (by rw [show i = cs.length from hi]; exact Int.lt_irrefl _)
  have hie : i = cs.length := hi
  have HO2 : OwnK Kd.bool 4 wr w.heap.size vI (cs.map f) := by rw [hie, List.take_length] at HO; exact HO
  have e0 := k0.cell 0
  have e1 := k0.cell 1
  clear hie HO SD SC
  go_wp2_with (go_at_call 43; refine (EV _ _ (hp.below HB) (hv'.below HB) HO2.rd).mono ?_; clear EV; rintro e w4 ⟨rfl, hb4⟩)
  go_ret2
  exact ⟨rfl, bZs HB hb4⟩
 | succ m =>
  have hA : (0 : Int) ≤ (i : Int) := Int.natCast_nonneg i
  have hin : i < cs.length := by rw [← hi]; exact Nat.lt_add_of_pos_right (Nat.succ_pos m)
  have hA2 : (i : Int) < (cs.length : Int) := Int.ofNat_lt.2 hin
  obtain ⟨ad, rfl, hx0, hx1⟩ := flat_at hq (0, 0, 0, 0) (i : Int) hA hA2
  have d0 := hx0 _ rfl
  have d1 := hx1 1 _ (by decide) rfl
  have d2 := hx1 2 _ (by decide) rfl
  have d3 := hx1 3 _ (by decide) rfl
  have d4 := hx1 4 _ (by decide) rfl
  have d5 := hx1 5 _ (by decide) rfl
  have d6 := hx1 6 _ (by decide) rfl
  rw [Int.toNat_natCast] at d0 d1 d2 d3 d4 d5 d6
  clear hx0 hx1 hA hA2
  have c0 := pZc HB d0
  have c1 := pZc HB d1
  have c2 := pZc HB d2
  have c3 := pZc HB d3
  have c4 := pZc HB d4
  have c5 := pZc HB d5
  have c6 := pZc HB d6
  clear d0 d1 d2 d3 d4 d5 d6
  have S1 := fun W hp => SD (cs.getD i (0, 0, 0, 0)) W hp (getD_mem hin)
  have TK := map_take f cs i (0, 0, 0, 0) hin
  have SC1 := SC (cs.getD i (0, 0, 0, 0))
  have hlt : ((i : Int) < (cs.length : Int)) = True := eq_true (Int.ofNat_lt.2 hin)
  have h0 : (0 ≤ (i : Int)) = True := eq_true (Int.natCast_nonneg i)
  have him := Aside0.mk (show i + 1 + m = cs.length from by rw [← hi, Nat.add_assoc, Nat.add_comm 1 m])
  have hlen : ((cs.take i).map f).length ≤ 120 := by rw [List.length_map, List.length_take]; exact Nat.le_trans (Nat.min_le_right _ _) (Nat.le_trans hnc (by decide))
  have HLE := Aside0.mk hlen
  clear SD SC hlen
  generalize cs.getD i (0, 0, 0, 0) = e at *
  unfold cv at S1
  generalize cmpR e.2.2.2 (distR e x y) = z at *
  generalize f e = bv at *
  generalize e.1 = kk at *
  generalize itx e.2.1.num = s1 at *
  generalize itx (e.2.1.den : Int) = s2 at *
  generalize itx e.2.2.1.num = s3 at *
  generalize itx (e.2.2.1.den : Int) = s4 at *
  generalize itx e.2.2.2.num = s5 at *
  generalize itx (e.2.2.2.den : Int) = s6 at *
  have HT := Aside0.mk TK
  clear TK
  have hB1 := bZa HB (.cells #[.int .i64 kk, .string s1, .string s2, .string s3, .string s4, .string s5, .string s6] 91)
  have K0 := k0.alloc (.cells #[.int .i64 kk, .string s1, .string s2, .string s3, .string s4, .string s5, .string s6] 91)
  have K1 := k1.alloc (.cells #[.int .i64 kk, .string s1, .string s2, .string s3, .string s4, .string s5, .string s6] 91)
  have K2 := k2.alloc (.cells #[.int .i64 kk, .string s1, .string s2, .string s3, .string s4, .string s5, .string s6] 91)
  have HO1 := HO.alloc (.cells #[.int .i64 kk, .string s1, .string s2, .string s3, .string s4, .string s5, .string s6] 91)
  obtain ⟨f0, f1, _, _⟩ := K1.two
  obtain ⟨g0, g1, _, _⟩ := K2.two
  have hw : wrap64 ((i : Int) + 1) = ((i + 1 : Nat) : Int) := wrap_succ hin hnc
  go_wp2_with (first | (go_at_call 42; refine (S1 _ (hp.below hB1)).mono ?_; clear S1; rintro e w4 ⟨rfl, hb4⟩; have hB4 := bZs hB1 hb4; have L0 := K0.below hb4; have L1 := K1.below hb4; have L2 := K2.below hb4; have HO4 := HO1.below hb4) | (rw [SC1]; at_builtin; refine appBo (w0 := w) w.heap.size (.tmp 40) (.tmp 43) 96 rfl rfl Tryz.underlying96 _ _ bv rfl rfl HO4 hB4 (bZz hB4) HLE.out ?_; intro v1 w5 HO5 HB5 HG5) | (at_builtin; refine appBo (w0 := w) w.heap.size (.tmp 40) (.tmp 43) 96 rfl rfl Tryz.underlying96 _ _ bv rfl rfl HO4 hB4 (bZz hB4) HLE.out ?_; intro v1 w5 HO5 HB5 HG5))
  go_roundg m
  case measure => omega
  case rel => exact ⟨i + 1, _, rfl, him.out, rfl, by rw [HT.out]; exact HO5, L0.kept HG5 (HO4.not_blk L0 (by decide)), L1.kept HG5 (HO4.not_blk L1 (by decide)), L2.kept HG5 (HO4.not_blk L2 (by decide)), HB5⟩
theorem rg_half (a1 a2 b1 b2 c1 c2 : ByteArray) (w : World) :
  Calls Tryz.prog 153 #[.agg #[.string a1, .string a2], .agg #[.string b1, .string b2], .agg #[.string c1, .string c2]] w fun e w' => e = .returned (.agg #[.int .i64 1, .string a1, .string a2, .string b1, .string b2, .string c1, .string c2]) ∧ Below w.heap.size w w' := by
 obtain ⟨hB0, k0, k1, k2, k3⟩ := news4 w #[.string a1, .string a2] 25 #[.string b1, .string b2] 25 #[.string c1, .string c2] 25 #[.int .i64 1, .string a1, .string a2, .string b1, .string b2, .string c1, .string c2] 91
 go_enter Tryz.func153, Tryz.ntmps153
 go_wp2
 refine bodyPost_ret (rZs rfl (.cell (w.heap.size + 3) 91 #[.int .i64 1, .string a1, .string a2, .string b1, .string b2, .string c1, .string c2] (0, 0) _ rfl k3 Tryz.underlying91 rfl (by kernel_rfl) .nil)) rfl ?_
 exact ⟨rfl, hB0⟩
section
variable {ops : Array Oper} {rest : List Oper} {o : Oper} {a : Act} {Q : Exit → Act → World → Prop}
theorem info93 : (Tryz.prog.info? 93).map (fun i => (i.zero, i.size, i.bytes)) = some (some (.agg #[.int .i64 0, .int .i64 0, .int .i64 0, .int .i64 0]), 4, 32) := by kernel_rfl
theorem appNd {w0 W : World} (base : Nat) (s x : Operand) (t : TypeId) (hgd : o.guard = none) (ho : o.op = .call { callee := .builtin .append, args := #[s, x], argTypes := #[t, t] })
  (ht : Tryz.prog.underlying t = some (.slice 93)) (v : Value) (xs : List Nd) (y : Nd) (hs : a.eval s = v) (hx : a.eval x = .slice (some ⟨W.heap.size, 0, none⟩) 1 1)
  (HO : OwnK kNd 93 W base v xs) (HB : Below base w0 W) (hbase : base ≤ W.heap.size) (hl : xs.length ≤ 1000)
  (h : ∀ v1 w1, OwnK kNd 93 w1 base v1 (xs ++ [y]) → Below base w0 w1 → W.grownBy w1 v.ownBlock → wpList Tryz.prog ops Q rest (a.put o.dst v1) w1) :
  wpList Tryz.prog ops Q (o :: rest) a (W.alloc (.cells (encN y).toArray 93)) :=
 Kd.R_append kNd base hgd s x t 93 (.agg #[.int .i64 0, .int .i64 0, .int .i64 0, .int .i64 0]) 32 ho ht info93 rfl (by decide) (by decide) v xs y (encN y) (fun _ => True) (fun _ => False) hs hx rfl (fun _ hk => hk.elim) (fun _ _ => trivial) HO HB hbase (by omega)
  (fun v1 w1 h1 h2 h3 _ => h v1 w1 h1 h2 h3)
theorem info91 : (Tryz.prog.info? 91).map (fun i => (i.zero, i.size, i.bytes)) = some (some (.agg #[.int .i64 0, .string ⟨#[]⟩, .string ⟨#[]⟩, .string ⟨#[]⟩, .string ⟨#[]⟩, .string ⟨#[]⟩, .string ⟨#[]⟩]), 7, 104) := by kernel_rfl
end
end Go.Proofs.YtociicfjhgfgpaaGreatDoor
namespace Go.Proofs.YtociicfjhgfgpaaGreatDoor
open Go.RowKit Go.Shelf Go.Lib Go.Proofs.YtociicfjhgfgpaaGreatDoorW.PrintWords
theorem own_none {α : Type} (d : Kd α) (e : Nat) (W : World) (base : Nat) (hb : base ≤ W.heap.size) : OwnK d e (W.alloc (.cells #[] e)) base (.slice (some ⟨W.heap.size, 0, none⟩) 0 0) [] := by
 refine ⟨fun _ _ => trivial, [], ?_, Reps.none _ _⟩
 exact World.ownsRow_lit (base := base) (e := e) (size := d.sz) W #[] 0 hb (by simp [maxLen]) (by simp)
section
variable {ops : Array Oper} {rest : List Oper} {o : Oper} {a : Act} {Q : Exit → Act → World → Prop}
theorem appNds {w0 W : World} (base : Nat) (s x : Operand) (t : TypeId) (hgd : o.guard = none) (ho : o.op = .call { callee := .builtin .append, args := #[s, x], argTypes := #[t, t] })
  (ht : Tryz.prog.underlying t = some (.slice 93)) (v : Value) (xs ys : List Nd) (A : Option Addr) (m c : Nat) (hs : a.eval s = v) (hx : a.eval x = .slice A m c)
  (HO : OwnK kNd 93 W base v xs) (HR : kNd.C W A m ys) (HB : Below base w0 W) (hbase : base ≤ W.heap.size) (hl : xs.length + m ≤ 1000)
  (h : ∀ v1 w1, OwnK kNd 93 w1 base v1 (xs ++ ys) → Below base w0 w1 → W.grownBy w1 v.ownBlock → wpList Tryz.prog ops Q rest (a.put o.dst v1) w1) :
  wpList Tryz.prog ops Q (o :: rest) a W :=
 Kd.R_append_rows kNd base hgd s x t 93 (.agg #[.int .i64 0, .int .i64 0, .int .i64 0, .int .i64 0]) 32 ho ht info93 rfl (by decide) (by decide) v xs ys A m c (fun _ => True) (fun _ => False) hs hx HO HR (fun _ _ hk => hk) (fun _ hk => hk.elim) (fun _ _ => trivial) HB hbase (by omega)
  (fun v1 w1 h1 h2 h3 _ => h v1 w1 h1 h2 h3)
theorem appCvs {w0 W : World} (base : Nat) (s x : Operand) (t : TypeId) (hgd : o.guard = none) (ho : o.op = .call { callee := .builtin .append, args := #[s, x], argTypes := #[t, t] })
  (ht : Tryz.prog.underlying t = some (.slice 91)) (v : Value) (xs ys : List Cv) (A : Option Addr) (m c : Nat) (hs : a.eval s = v) (hx : a.eval x = .slice A m c)
  (HO : OwnK kCv 91 W base v xs) (HR : kCv.C W A m ys) (HB : Below base w0 W) (hbase : base ≤ W.heap.size) (hl : xs.length + m ≤ 1000)
  (h : ∀ v1 w1, OwnK kCv 91 w1 base v1 (xs ++ ys) → Below base w0 w1 → W.grownBy w1 v.ownBlock → wpList Tryz.prog ops Q rest (a.put o.dst v1) w1) :
  wpList Tryz.prog ops Q (o :: rest) a W :=
 Kd.R_append_rows kCv base hgd s x t 91 (.agg #[.int .i64 0, .string ⟨#[]⟩, .string ⟨#[]⟩, .string ⟨#[]⟩, .string ⟨#[]⟩, .string ⟨#[]⟩, .string ⟨#[]⟩]) 104 ho ht info91 rfl (by decide) (by decide) v xs ys A m c (fun _ => True) (fun _ => False) hs hx HO HR (fun _ _ hk => hk) (fun _ hk => hk.elim) (fun _ _ => trivial) HB hbase (by omega)
  (fun v1 w1 h1 h2 h3 _ => h v1 w1 h1 h2 h3)
end
theorem rg_cloneCv (v : Value) (xs : List Cv) (w : World) (h : RdK kCv w v xs) (hl : xs.length ≤ 1000) :
  Calls Tryz.prog 192 #[v] w fun e w' => ∃ v', e = .returned v' ∧ OwnK kCv 91 w' w.heap.size v' xs ∧ Below w.heap.size w w' := by
 obtain ⟨A, c, rfl, hc, hq⟩ := h
 cases A with
 | none =>
  have h0 : xs = [] := by
   cases xs with
   | nil => rfl
   | cons x xs => obtain ⟨ad, h, _⟩ := hq.2.2 (by simp); cases h
  subst h0
  have hnil : ∀ w : World, (binOp BinOp.eql 39 (.slice none 0 c) (.slice none 0 0)).run Tryz.prog w = .ok (.bool true) w := fun _ => by kernel_rfl
  go_enter Tryz.func192, Tryz.ntmps192
  go_wp2
  go_ret
  exact ⟨_, rfl, OwnK.nil _ _ _ _, Below.refl _ _⟩
 | some ad =>
  have hnil : ∀ w : World, (binOp BinOp.eql 39 (.slice (some ad) xs.length c) (.slice none 0 0)).run Tryz.prog w = .ok (.bool false) w := fun _ => by kernel_rfl
  have hB0 : Below w.heap.size w (w.alloc (.cells #[] 91)) := bZa (Below.refl _ _) _
  go_enter Tryz.func192, Tryz.ntmps192
  go_wp2_with (at_builtin; refine appCvs (w0 := w) w.heap.size (.tmp 5) (.tmp 6) 39 rfl rfl Tryz.underlying39 _ [] xs _ _ _ rfl rfl (own_none _ _ w _ (Nat.le_refl _)) (Kd.C_below hq hB0) hB0 (bZz hB0) (by simpa using hl) ?_; intro v1 w1 HO HB HG)
  go_ret
  exact ⟨_, rfl, HO, HB⟩
theorem rg_cloneNd (v : Value) (xs : List Nd) (w : World) (h : RdK kNd w v xs) (hl : xs.length ≤ 1000) :
  Calls Tryz.prog 193 #[v] w fun e w' => ∃ v', e = .returned v' ∧ OwnK kNd 93 w' w.heap.size v' xs ∧ Below w.heap.size w w' := by
 obtain ⟨A, c, rfl, hc, hq⟩ := h
 cases A with
 | none =>
  have h0 : xs = [] := by
   cases xs with
   | nil => rfl
   | cons x xs => obtain ⟨ad, h, _⟩ := hq.2.2 (by simp); cases h
  subst h0
  have hnil : ∀ w : World, (binOp BinOp.eql 40 (.slice none 0 c) (.slice none 0 0)).run Tryz.prog w = .ok (.bool true) w := fun _ => by kernel_rfl
  go_enter Tryz.func193, Tryz.ntmps193
  go_wp2
  go_ret
  exact ⟨_, rfl, OwnK.nil _ _ _ _, Below.refl _ _⟩
 | some ad =>
  have hnil : ∀ w : World, (binOp BinOp.eql 40 (.slice (some ad) xs.length c) (.slice none 0 0)).run Tryz.prog w = .ok (.bool false) w := fun _ => by kernel_rfl
  have hB0 : Below w.heap.size w (w.alloc (.cells #[] 93)) := bZa (Below.refl _ _) _
  go_enter Tryz.func193, Tryz.ntmps193
  go_wp2_with (at_builtin; refine appNds (w0 := w) w.heap.size (.tmp 5) (.tmp 6) 40 rfl rfl Tryz.underlying40 _ [] xs _ _ _ rfl rfl (own_none _ _ w _ (Nat.le_refl _)) (Kd.C_below hq hB0) hB0 (bZz hB0) (by simpa using hl) ?_; intro v1 w1 HO HB HG)
  go_ret
  exact ⟨_, rfl, HO, HB⟩
end Go.Proofs.YtociicfjhgfgpaaGreatDoor
namespace Go.Proofs.YtociicfjhgfgpaaGreatDoor
open Go.RowKit Go.Shelf Go.Lib Go.Proofs.YtociicfjhgfgpaaGreatDoorW.PrintWords
def OwnR (w : World) (base : Nat) (v : Value) (r : Rg) : Prop := ∃ u n, v = .agg #[u, n] ∧ OwnK kCv 91 w base u r.1 ∧ OwnK kNd 93 w base n r.2
theorem OwnR.rd {w : World} {base : Nat} {v : Value} {r : Rg} (h : OwnR w base v r) : RdR w v r := by
 obtain ⟨u, n, e, h1, h2⟩ := h
 exact ⟨u, n, e, h1.rd, h2.rd⟩
theorem rg_copied (v : Value) (r : Rg) (w : World) (hv : RdR w v r) (h1 : r.1.length ≤ 24) (h2 : r.2.length ≤ 120) :
  Calls Tryz.prog 148 #[v] w fun e w' => ∃ v', e = .returned v' ∧ OwnR w' w.heap.size v' r ∧ Below w.heap.size w w' := by
 obtain ⟨cs, ns⟩ := r
 obtain ⟨u, n, rfl, hu, hn⟩ := hv
 dsimp only at *
 have U := fun W h => rg_cloneCv u cs W h (Nat.le_trans h1 (by decide))
 have N := fun W h => rg_cloneNd n ns W h (Nat.le_trans h2 (by decide))
 obtain ⟨hB0, k0, k1⟩ := new2 w #[u, n] #[.slice none 0 0, .slice none 0 0] 42 42
 go_enter Tryz.func148, Tryz.ntmps148
 go_wp2
 generalize hw3 : (w.alloc (.cells #[u, n] 42)).alloc (.cells #[.slice none 0 0, .slice none 0 0] 42) = w3 at *
 clear hw3
 have hC0 : Below w3.drew.heap.size w3.drew w3.drew := Below.refl _ _
 refine wp_region_C (fun i => i == 7) (fun W => Below w3.drew.heap.size w3.drew W) (by kernel_rfl) ?_
 refine wZt (i := 0) rfl (by kernel_rfl) (by kernel_rfl) (by kernel_rfl) (by kernel_rfl) (fun _ _ _ _ h => h) hC0 (by rfl) ?_
 apply Exists.intro
 refine ⟨fun W hW => ?_, ?_⟩
 ·go_simp
  try rfl
 refine wZt (i := 1) rfl (by kernel_rfl) (by kernel_rfl) (by kernel_rfl) (by kernel_rfl) (fun _ _ _ _ h => h) hC0 (by rfl) ?_
 apply Exists.intro
 refine ⟨fun W hW => ?_, ?_⟩
 ·have e0 := (k0.drew.below hW).cell 0; have e1 := (k0.drew.below hW).cell 1; go_simp
  try rfl
 refine wZt (i := 3) rfl (by kernel_rfl) (by kernel_rfl) (by kernel_rfl) (by kernel_rfl) (fun _ _ _ _ h => h) hC0 (by rfl) ?_
 apply Exists.intro
 refine ⟨fun W hW => ?_, ?_⟩
 ·go_simp
  try rfl
 refine wZt (i := 4) rfl (by kernel_rfl) (by kernel_rfl) (by kernel_rfl) (by kernel_rfl) (fun _ _ _ _ h => h) hC0 (by rfl) ?_
 apply Exists.intro
 refine ⟨fun W hW => ?_, ?_⟩
 ·have e0 := (k0.drew.below hW).cell 0; have e1 := (k0.drew.below hW).cell 1; go_simp
  try rfl
 refine wZs (i := 2) (by kernel_rfl) rfl (fun K hK => ?_)
 go_simp
 go_at_call 192
 refine (U _ ((hu.below hB0).drew)).mono ?_
 rintro e w4 ⟨u1, rfl, HU, hb4⟩
 refine hK _ _ (fun _ => hb4) ?_
 clear hK K
 refine wZs (i := 5) (by kernel_rfl) rfl (fun K hK => ?_)
 go_simp
 go_at_call 193
 refine (N _ (((hn.below hB0).drew).below hb4)).mono ?_
 rintro e w5 ⟨n1, rfl, HN, hb5⟩
 refine hK _ _ (fun _ => bZs hb4 hb5) ?_
 clear hK K
 obtain ⟨A1, c1, eu⟩ := Kd.R_slice HU
 obtain ⟨B1, d1, en⟩ := Kd.R_slice HN
 subst eu en
 refine wZt (i := 6) rfl (by kernel_rfl) (by kernel_rfl) (by kernel_rfl) (by kernel_rfl) (fun _ _ _ _ h => h) (bZs hb4 hb5) (by rfl) ?_
 apply Exists.intro
 refine ⟨fun W hW => ?_, ?_⟩
 ·go_simp
  try rfl
 have hB5 := bZs (bZd hB0) (bZs hb4 hb5)
 have k5 := k1.drew.below (bZs hb4 hb5)
 obtain ⟨r0, r1, q0, q1⟩ := k5.two
 refine wZs (i := 7) (by kernel_rfl) rfl (fun K hK => ?_)
 go_simp
 refine hK _ _ (fun h => absurd h (by decide)) ?_
 clear hK K
 refine wpAnyC_done (by kernel_rfl) ?_ _
 go_wp2
 have HU2 := HU.below hb5
 have HUs := (HU2.set k5 (by decide) 0 (.slice A1 cs.length c1)).set (k5.set 0 _) (by decide) 1 (.slice B1 ns.length d1)
 have HNs := (HN.set k5 (by decide) 0 (.slice A1 cs.length c1)).set (k5.set 0 _) (by decide) 1 (.slice B1 ns.length d1)
 have hbase1 : w.heap.size ≤ w3.drew.heap.size := bZz (bZd hB0)
 refine bodyPost_ret (rZs rfl (.cell (w.heap.size + 1) 42 #[.slice A1 cs.length c1, .slice B1 ns.length d1] (0, 0) _ rfl ((k5.set 0 _).set 1 _) Tryz.underlying42 rfl (by kernel_rfl) .nil)) rfl ?_
 exact ⟨_, rfl, ⟨_, _, rfl, Kd.R_lower HUs hbase1, Kd.R_lower HNs (Nat.le_trans hbase1 (bZz hb4))⟩, bZe (bZe hB5 (by omega)) (by omega)⟩
end Go.Proofs.YtociicfjhgfgpaaGreatDoor
namespace Go.Proofs.YtociicfjhgfgpaaGreatDoor
def leafN (i : Nat) : List Nd := (List.range i).map fun (j : Nat) => ((1, (j : Int), 0, 0) : Nd)
def leftN (n j : Nat) : Int := if j = 0 then 0 else (n : Int) + j - 1
def andN (n i : Nat) : List Nd := (List.range i).map fun (j : Nat) => ((3, 0, leftN n j, (j : Int) + 1) : Nd)
def allN (n : Nat) : List Nd := leafN n ++ andN n (n - 1)
theorem leafN_succ (i : Nat) : leafN (i + 1) = leafN i ++ [(1, (i : Int), 0, 0)] := by simp [leafN, List.range_succ]
theorem andN_succ (n i : Nat) : andN n (i + 1) = andN n i ++ [(3, 0, leftN n i, (i : Int) + 1)] := by simp [andN, List.range_succ]
theorem leafN_len (i : Nat) : (leafN i).length = i := by simp [leafN]
theorem andN_len (n i : Nat) : (andN n i).length = i := by simp [andN]
theorem rectR_nodes (x0 y0 x1 y1 : Rat) : (rectR x0 y0 x1 y1).2 = allN 4 := by
 unfold rectR allN leafN andN leftN
 simp [List.range_succ]
theorem discR_nodes (x y r : Rat) : (discR x y r).2 = allN 1 := by
 unfold discR allN leafN andN
 simp [List.range_succ]
end Go.Proofs.YtociicfjhgfgpaaGreatDoor
namespace Go.Proofs.YtociicfjhgfgpaaGreatDoor
open Go.RowKit Go.Shelf Go.Lib Go.Proofs.YtociicfjhgfgpaaGreatDoorW.PrintWords
theorem rg_inter (b : Nat) (A : Option Addr) (c : Nat) (cs : List Cv) (w : World) (hk : Blk w b #[.bool false] 154) (hl : cs.length ≤ 24) (h1 : 1 ≤ cs.length) :
  Calls Tryz.prog 152 #[.pointer (some ⟨b, 0, none⟩), .slice A cs.length c] w fun e w' => ∃ n, e = .returned (.tuple #[.agg #[.slice A cs.length c, n], .int .i64 0]) ∧ OwnK kNd 93 w' w.heap.size n (allN cs.length) ∧ Below w.heap.size w w' := by
 obtain ⟨N, hN⟩ : ∃ N, cs.length = N := ⟨_, rfl⟩
 rw [hN] at hl h1 ⊢
 clear hN cs
 obtain ⟨hB0, k0, k1⟩ := new2 w #[.slice none 0 0, .slice none 0 0] #[.slice A N c, .slice none 0 0] 42 42
 have hb0 := (hk.alloc (.cells #[.slice none 0 0, .slice none 0 0] 42)).cell 0
 have HS := Aside0.mk (show w.heap.size ≠ w.heap.size + 1 by omega)
 go_enter Tryz.func152, Tryz.ntmps152
 go_wp2
 go_loopg [20] N (fun m v20 w' => ∃ (i : Nat) (vN : Value), v20 = .int .i64 i ∧ i + m = N ∧ Blk w' w.heap.size #[.slice none 0 0, .slice none 0 0] 42 ∧ Blk w' (w.heap.size + 1) #[.slice A N c, vN] 42 ∧ OwnK kNd 93 w' w.heap.size vN (leafN i) ∧ Below w.heap.size w w')
 case atStart => exact ⟨0, _, rfl, Nat.zero_add _, k0, k1, OwnK.nil _ _ _ _, hB0⟩
 clear k0 k1 hB0 hb0
 obtain ⟨i, vN, rfl, hi, k0, k1, HO, HB⟩ := hrel
 cases gk with
 | zero =>
  have hie : i = N := hi
  subst hie
  have hlt : decide ((i : Int) < (i : Int)) = false := decide_eq_false (Int.lt_irrefl _)
  go_wp2
  go_loopg [8] (i - 1) (fun m v8 w' => ∃ (j : Nat) (vM : Value), v8 = .int .i64 ((j : Int) + 1) ∧ j + 1 + m = i ∧ Blk w' w.heap.size #[.slice none 0 0, .slice none 0 0] 42 ∧ Blk w' (w.heap.size + 1) #[.slice A i c, vM] 42 ∧ OwnK kNd 93 w' w.heap.size vM (leafN i ++ andN i j) ∧ Below w.heap.size w w')
  case atStart => exact ⟨0, _, rfl, by omega, k0, k1, by simpa [andN] using HO, HB⟩
  clear k0 k1 HO HB hlt
  obtain ⟨j, vM, rfl, hj, k0, k1, HO, HB⟩ := hrel
  have hlen : (leafN i ++ andN i j).length = i + j := by rw [List.length_append, leafN_len, andN_len]
  obtain ⟨A6, c6, e6⟩ := Kd.R_slice HO
  rw [hlen] at e6
  subst e6
  cases gk with
  | zero =>
   have hje : j + 1 = i := hj
   have hlt : decide ((j : Int) + 1 < (i : Int)) = false := decide_eq_false (by omega)
   have HO2 : OwnK kNd 93 wr w.heap.size (.slice A6 (i + j) c6) (allN i) := by
    unfold allN
    rw [show i - 1 = j by omega]
    exact HO
   have c0 : wr.cell? ⟨w.heap.size + 1, 0, none⟩ = some (.slice A i c) := k1.cell 0
   have c1 : wr.cell? ⟨w.heap.size + 1, 1, none⟩ = some (.slice A6 (i + j) c6) := k1.cell 1
   obtain ⟨r0, r1, q0, q1⟩ := k0.two
   go_wp2
   have HO3 := (HO2.set k0 (by decide) 0 (.slice A i c)).set (k0.set 0 _) (by decide) 1 (.slice A6 (i + j) c6)
   refine bodyPost_ret (results_ct rfl _ _ w.heap.size 42 #[.slice A i c, .slice A6 (i + j) c6] (0, 0) _ rfl ((k0.set 0 (.slice A i c)).set 1 (.slice A6 (i + j) c6)) Tryz.underlying42 rfl (by kernel_rfl)) rfl ?_
   exact ⟨_, rfl, HO3, bZe (bZe HB (Nat.le_refl _)) (Nat.le_refl _)⟩
  | succ m =>
   have hle := Aside0.mk (show (leafN i ++ andN i j).length ≤ 1000 from by rw [hlen]; omega)
   have hjm := Aside0.mk (show j + 1 + 1 + m = i by omega)
   have HL := Aside0.mk hlen
   have c1 : wr.cell? ⟨w.heap.size + 1, 1, none⟩ = some (.slice A6 (i + j) c6) := k1.cell 1
   have hlt : ((j : Int) + 1 < (i : Int)) = True := eq_true (by omega)
   have hw2 : wrap64 ((j : Int) + 1 + 1) = (j : Int) + 1 + 1 := by unfold wrap64; omega
   have hw1 : wrap64 ((i : Int) + (j : Int) - 1) = (i : Int) + (j : Int) - 1 := by unfold wrap64; omega
   have key : ((((j : Int) + 1) == 1) = true ∧ leftN i j = 0) ∨ ((((j : Int) + 1) == 1) = false ∧ leftN i j = (i : Int) + (j : Int) - 1) := by
    cases j with
    | zero => exact .inl ⟨rfl, rfl⟩
    | succ j => exact .inr ⟨beq_eq_false_iff_ne.2 (by omega), by unfold leftN; rw [if_neg (by omega)]⟩
   clear hlen hj hi hl h1
   rcases key with ⟨g1, g2⟩ | ⟨g1, g2⟩
   all_goals
    have G2 := Aside0.mk g2
    clear g2
    go_wp2_with (at_builtin; refine appNd (w0 := w) w.heap.size (.tmp 44) (.tmp 48) 40 rfl rfl Tryz.underlying40 _ (leafN i ++ andN i j) (3, 0, _, (j : Int) + 1) rfl rfl HO HB (bZz HB) hle.out ?_; intro v1 w1 HO1 HB1 HG1; obtain ⟨A5, c5, e5⟩ := Kd.R_slice HO1; rw [List.length_append, HL.out, List.length_singleton] at e5; subst e5; have q0 := k0.kept HG1 (HO.not_blk k0 (by decide)); have q1 := k1.kept HG1 (HO.not_blk k1 (by decide)); have z1 : w1.cell? ⟨w.heap.size + 1, 1, none⟩ = some (.slice A6 (i + j) c6) := q1.cell 1; have z2 := q1.frozen 1)
    go_roundg m
    case measure => omega
    case rel =>
     have HO2 := HO1.set q1 (by decide) 1 (.slice A5 (i + j + 1) c5)
     refine ⟨j + 1, _, by congr 1, hjm.out, q0.far (p := ⟨w.heap.size + 1, 1, none⟩) HS.out _, q1.set 1 _, ?_, bZe HB1 (Nat.le_succ _)⟩
     rw [andN_succ, ← List.append_assoc, G2.out]
     exact HO2
 | succ m =>
  have hin : i < N := by rw [← hi]; exact Nat.lt_add_of_pos_right (Nat.succ_pos m)
  have hlt : ((i : Int) < (N : Int)) = True := eq_true (Int.ofNat_lt.2 hin)
  have him := Aside0.mk (show i + 1 + m = N from by rw [← hi, Nat.add_assoc, Nat.add_comm 1 m])
  have hle := Aside0.mk (show (leafN i).length ≤ 1000 from by rw [leafN_len]; exact Nat.le_trans (Nat.le_of_lt hin) (Nat.le_trans hl (by decide)))
  have hw : wrap64 ((i : Int) + 1) = ((i + 1 : Nat) : Int) := wrap_succ hin hl
  have c1 : wr.cell? ⟨w.heap.size + 1, 1, none⟩ = some vN := k1.cell 1
  go_wp2_with (at_builtin; refine appNd (w0 := w) w.heap.size (.tmp 24) (.tmp 27) 40 rfl rfl Tryz.underlying40 vN (leafN i) (1, (i : Int), 0, 0) rfl rfl HO HB (bZz HB) hle.out ?_; intro v1 w1 HO1 HB1 HG1; obtain ⟨A5, c5, e5⟩ := Kd.R_slice HO1; subst e5; have q0 := k0.kept HG1 (HO.not_blk k0 (by decide)); have q1 := k1.kept HG1 (HO.not_blk k1 (by decide)); have z1 : w1.cell? ⟨w.heap.size + 1, 1, none⟩ = some vN := q1.cell 1; have z2 := q1.frozen 1)
  go_roundg m
  case measure => omega
  case rel =>
   have HO2 := HO1.set q1 (by decide) 1 (.slice A5 (leafN i ++ [(1, (i : Int), 0, 0)]).length c5)
   refine ⟨i + 1, _, rfl, him.out, q0.far (p := ⟨w.heap.size + 1, 1, none⟩) HS.out _, q1.set 1 _, ?_, bZe HB1 (Nat.le_succ _)⟩
   rw [leafN_succ]
   rw [List.length_append, List.length_singleton] at HO2
   exact HO2
end Go.Proofs.YtociicfjhgfgpaaGreatDoor

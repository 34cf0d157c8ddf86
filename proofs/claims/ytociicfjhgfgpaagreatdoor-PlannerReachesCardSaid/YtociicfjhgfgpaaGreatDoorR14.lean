/- integer: over: the walk. -/
import Derived.Test.YtociicfjhgfgpaaGreatDoorR06
import Derived.Stop.RegionWithIn
import Derived.Laws.EntriesVeiled
set_option linter.unusedVariables false
set_option linter.unusedSimpArgs false
set_option maxHeartbeats 4000000
set_option maxRecDepth 100000
namespace Go.Proofs.YtociicfjhgfgpaaGreatDoor
open Go.RowKit Go.Shelf Go.Proofs.YtociicfjhgfgpaaGreatDoorW.PrintWords
attribute [local go_sem] Oper.semAt_some
theorem divB (x y m : Nat) (hy : 0 < y) : x / 10000 ^ m / y = 10000 * (x / 10000 ^ (m + 1) / y) + (x / 10000 ^ m % 10000 + 10000 * (x / 10000 ^ (m + 1) % y)) / y ∧ x / 10000 ^ m % y = (x / 10000 ^ m % 10000 + 10000 * (x / 10000 ^ (m + 1) % y)) % y := by
 have e : x / 10000 ^ (m + 1) = x / 10000 ^ m / 10000 := by rw [Nat.pow_succ, Nat.div_div_eq_div_mul]
 rw [e]
 generalize x / 10000 ^ m = z
 have h1 := Nat.div_add_mod z 10000
 have h2 := Nat.div_add_mod (z / 10000) y
 have e2 : z = (z % 10000 + 10000 * (z / 10000 % y)) + y * (10000 * (z / 10000 / y)) := by
  have h3 : 10000 * (y * (z / 10000 / y) + z / 10000 % y) = 10000 * (z / 10000) := by rw [h2]
  have h4 : y * (10000 * (z / 10000 / y)) = 10000 * (y * (z / 10000 / y)) := by ac_rfl
  rw [Nat.mul_add] at h3
  omega
 constructor
 ·conv => lhs; rw [e2, Nat.add_mul_div_left _ _ hy]
  omega
 ·conv => lhs; rw [e2, Nat.add_mul_mod_self_left]
theorem trim_consB (d r : Nat) (hd : d < 10000) : trimL (((d : Nat) : Int) :: digs 10000 r) = digs 10000 (d + 10000 * r) := by
 have h : Dig 10000 (((d : Nat) : Int) :: digs 10000 r) := by
  intro z hz
  rcases List.mem_cons.1 hz with rfl | hz
  ·omega
  ·exact digs_dig (by decide) r z hz
 rw [trimL_val (by decide) _ h]
 show digs 10000 (((d : Nat) : Int).toNat + 10000 * val 10000 (digs 10000 r)) = _
 rw [val_digs (by decide), Int.toNat_natCast]
theorem set_size (W : World) (a : Addr) (v : Value) : (W.setCell a v).heap.size = W.heap.size := by simp
theorem appEIn {F : Fence} {n : Nat} {ops : Array Oper} {rest : List Oper} {o : Oper} {a : Act} {Q : Exit → Act → World → Prop} {W : World} (base : Nat) (s x : Operand) (t : TypeId) (hgd : o.guard = none) (ho : o.op = .call { callee := .builtin .append, args := #[s, x], argTypes := #[t, t] })
  (ht : Tryz.prog.underlying t = some (.slice 3)) (v : Value) (xs ys : List Int) (A : Option Addr) (m c : Nat) (hs : a.eval s = v) (hx : a.eval x = .slice A m c)
  (HO : Own W base v xs) (HR : Rd W (.slice A m c) ys) (hbase : base ≤ W.heap.size) (hl : xs.length + m < 17592186044415)
  (h : ∀ v1 w1, Own w1 base v1 (xs ++ ys) → W.grownBy w1 v.ownBlock → wpListIn F n Tryz.prog ops Q rest (a.put o.dst v1) w1) :
  wpListIn F n Tryz.prog ops Q (o :: rest) a W := by
 rcases Nat.eq_zero_or_pos m with h0 | h0
 ·subst h0
  obtain ⟨i0, hi, hzz⟩ := Option.map_eq_some_iff.1 info3
  simp only [Prod.mk.injEq] at hzz
  obtain ⟨hz0, hz1, hz2⟩ := hzz
  obtain ⟨hC, hym⟩ := HR.reads
  obtain rfl : ys = [] := List.eq_nil_of_length_eq_zero hym
  rcases A with _ | ad
  ·have hrun : (Builtin.append_ #[t, t] o.type #[v, .slice none 0 c]).run Tryz.prog W = .ok v W := by
    rcases HO.cells.2 with ⟨rfl, hn⟩ | ⟨g, cap, cur, rfl, _, _, hnc, _⟩
    ·simp [Builtin.append_, run_underlying ht, sizeOf, typeInfo, hi, Builtin.lenOf, Builtin.firstCells]
    ·simp [Builtin.append_, run_underlying ht, sizeOf, typeInfo, hi, Builtin.lenOf, Builtin.firstCells, hnc, storeCells]
   have h9 := h v W (by rw [List.append_nil]; exact HO) (World.grownBy.refl W _)
   refine wpListIn_plain hgd fun K hK' => ?_
   unfold Oper.wpIn
   refine ⟨by simp [Oper.about, ho, resolve, Target.leads, Sem.run_pure], ?_⟩
   rw [Oper.semAt_plain F _ _ (by rw [ho]; intro c hc'; cases hc')]
   simp [execOp, ho, resolve, invoke, builtin, hs, hx, hrun, Result.andThen]
   exact hK' _ _ h9
  ·refine wpListIn_append_own W hgd s x t ho base 3 i0 (.int .i64 0) 1 8 ht hi hz0 hz1 hz2 rfl (by decide) v xs.length (nums .i64 xs) hs HO.cells ad 0 c [] hx rfl (fun j u hj => by simp at hj) (fun u hu => absurd hu List.not_mem_nil) (by unfold maxLen; omega) (by omega) hbase ?_
   intro v' w' hown hg _
   refine h v' w' (own_of_cells ?_) hg
   rw [List.append_nil]
   rw [List.append_nil] at hown
   exact hown
 ·exact appNIn base s x t hgd ho ht v xs ys A m c hs hx HO HR h0 hbase hl h
theorem wpIn_cut {F : Fence} {n : Nat} {P : Program} {c : Code} {Q : Exit → Act → World → Prop} {a : Act} {w : World} (G : World → Prop) (h : ∃ act, c.wpIn F n P (fun e a' w' => e = .normal ∧ a' = act ∧ G w') a w ∧ ∀ w', G w' → Q .normal act w') : c.wpIn F n P Q a w := by
 obtain ⟨act, h1, h2⟩ := h
 exact Code.wpIn_mono (fun e a' w' ⟨e1, e2, hg⟩ => by subst e1; subst e2; exact h2 _ hg) h1
theorem wpIn_cut3 {α β γ : Type} {F : Fence} {n : Nat} {P : Program} {c : Code} {Q : Exit → Act → World → Prop} {a : Act} {w : World} (G : α → β → γ → World → Prop) (h : ∃ act : α → β → γ → Act, c.wpIn F n P (fun e a' w' => ∃ x y z, e = .normal ∧ a' = act x y z ∧ G x y z w') a w ∧ ∀ x y z w', G x y z w' → Q .normal (act x y z) w') : c.wpIn F n P Q a w := by
 obtain ⟨act, h1, h2⟩ := h
 exact Code.wpIn_mono (fun e a' w' ⟨x, y, z, e1, e2, hg⟩ => by subst e1; subst e2; exact h2 x y z _ hg) h1
theorem wpIn_cut2 {α β : Type} {F : Fence} {n : Nat} {P : Program} {c : Code} {Q : Exit → Act → World → Prop} {a : Act} {w : World} (G : α → β → World → Prop) (h : ∃ act : α → β → Act, c.wpIn F n P (fun e a' w' => ∃ x y, e = .normal ∧ a' = act x y ∧ G x y w') a w ∧ ∀ x y w', G x y w' → Q .normal (act x y) w') : c.wpIn F n P Q a w := by
 obtain ⟨act, h1, h2⟩ := h
 exact Code.wpIn_mono (fun e a' w' ⟨x, y, e1, e2, hg⟩ => by subst e1; subst e2; exact h2 x y _ hg) h1
structure OvN (a b n k R : Nat) (L : List Int) : Prop where
 r : a / 10000 ^ k % b = R
 len : L.length = n
 dig : Dig 10000 L
 zero : ∀ j, j < k → L.getD j 0 = 0
 val : val 10000 L = 10000 ^ k * (a / 10000 ^ k / b)
def ovJ (w : World) (lv mv : Value) (a b n : Nat) (k : Nat) (W : World) : Prop :=
 ∃ (v : Value) (R : Nat) (L : List Int), (Below w.heap.size w W ∧ (Blk W (w.heap.size + 4) #[lv] 166 ∧ (Blk W w.heap.size #[mv] 166 ∧ (Blk W (w.heap.size + 1) #[.slice (some ⟨w.heap.size + 3, 0, none⟩) n n] 166 ∧ (Blk W (w.heap.size + 2) #[v] 166 ∧ (Rd W v (digs 10000 R) ∧ Own W w.heap.size (.slice (some ⟨w.heap.size + 3, 0, none⟩) n n) L)))))) ∧ ((∀ k, v.ownBlock = some k → w.heap.size + 4 < k) ∧ OvN a b n k R L)
theorem ovJ_from (w : World) (lv mv : Value) (a b n B : Nat) (hB : w.heap.size ≤ B) : OwnFrom B (ovJ w lv mv a b n) :=
 ownFrom_ex fun v => ownFrom_ex fun R => ownFrom_ex fun L => OwnFrom.and (OwnFrom.and (ownFrom_below (Nat.le_refl _) hB) (OwnFrom.and (blk_from B _ _ (fun _ => #[lv])) (OwnFrom.and (blk_from B _ _ (fun _ => #[mv])) (OwnFrom.and (blk_from B _ _ (fun _ => #[.slice (some ⟨w.heap.size + 3, 0, none⟩) n n])) (OwnFrom.and (blk_from B _ _ (fun _ => #[v])) (OwnFrom.and (rd_from B (fun _ => v) (fun _ => digs 10000 R)) (own_from B w.heap.size (fun _ => .slice (some ⟨w.heap.size + 3, 0, none⟩) n n) (fun _ => L)))))))) (fun _ _ _ _ hs _ _ => hs)
theorem over_in (u v : Value) (a b : Nat) (w : World) (h1 : Rd w u (digs 10000 a)) (h2 : Rd w v (digs 10000 b)) (hl1 : (digs 10000 a).length ≤ 100) (hl2 : (digs 10000 b).length ≤ 100) (hb0 : 0 < b) :
  CallsIn Fence.wide 8 Tryz.prog 111 #[u, v] w fun e w' => ∃ v1 v2, e = .returned (.tuple #[v1, v2]) ∧ Rd w' v1 (digs 10000 (a / b)) ∧ Rd w' v2 (digs 10000 (a % b)) ∧ Below w.heap.size w w' := by
 have R1 := Aside0.mk h1
 have R2 := Aside0.mk h2
 obtain ⟨A, c, rfl, -, -⟩ := h1
 obtain ⟨A2, c2, rfl, -, -⟩ := h2
 generalize hla : (digs 10000 a).length = la at *
 generalize hlb : (digs 10000 b).length = lb at *
 have hmk := print_make 166 3 .i64 8 Tryz.underlying166 info3 (by decide) la (by omega)
 obtain ⟨WL, hWL⟩ : ∃ WL, ((((w.alloc (.cells #[.slice A2 lb c2] 166)).alloc (.cells #[.slice (some ⟨w.heap.size + 3, 0, none⟩) la la] 166)).alloc (.cells #[.slice none 0 0] 166)).alloc (.cells (madeCells #[.int .i64 0] la) 3)).alloc (.cells #[.slice A la c] 166) = WL := ⟨_, rfl⟩
 have hB0 : Below w.heap.size w WL := by rw [← hWL]; exact bZa (bZa (bZa (bZa (bZa (Below.refl _ _) _) _) _) _) _
 have hk0 : Blk WL w.heap.size #[.slice A2 lb c2] 166 := by rw [← hWL]; exact ((((Blk.new w _ _).alloc _).alloc _).alloc _).alloc _
 have hk1 : Blk WL (w.heap.size + 1) #[.slice (some ⟨w.heap.size + 3, 0, none⟩) la la] 166 := by
  rw [← hWL]
  have := (((Blk.new (w.alloc (.cells #[.slice A2 lb c2] 166)) #[.slice (some ⟨w.heap.size + 3, 0, none⟩) la la] 166).alloc (.cells #[.slice none 0 0] 166)).alloc (.cells (madeCells #[.int .i64 0] la) 3)).alloc (.cells #[.slice A la c] 166)
  rwa [World.size_alloc] at this
 have hk2 : Blk WL (w.heap.size + 2) #[.slice none 0 0] 166 := by
  rw [← hWL]
  have := ((Blk.new ((w.alloc (.cells #[.slice A2 lb c2] 166)).alloc (.cells #[.slice (some ⟨w.heap.size + 3, 0, none⟩) la la] 166)) #[.slice none 0 0] 166).alloc (.cells (madeCells #[.int .i64 0] la) 3)).alloc (.cells #[.slice A la c] 166)
  rwa [World.size_alloc, World.size_alloc] at this
 have hk4 : Blk WL (w.heap.size + 4) #[.slice A la c] 166 := by
  rw [← hWL]
  have := Blk.new ((((w.alloc (.cells #[.slice A2 lb c2] 166)).alloc (.cells #[.slice (some ⟨w.heap.size + 3, 0, none⟩) la la] 166)).alloc (.cells #[.slice none 0 0] 166)).alloc (.cells (madeCells #[.int .i64 0] la) 3)) #[.slice A la c] 166
  rwa [World.size_alloc, World.size_alloc, World.size_alloc, World.size_alloc] at this
 have ho3 : Own WL w.heap.size (.slice (some ⟨w.heap.size + 3, 0, none⟩) la la) (List.replicate la 0) := by
  rw [← hWL]
  have h9 := own_made (((w.alloc (.cells #[.slice A2 lb c2] 166)).alloc (.cells #[.slice (some ⟨w.heap.size + 3, 0, none⟩) la la] 166)).alloc (.cells #[.slice none 0 0] 166)) w.heap.size 3 .i64 la (by simp; omega) (by omega)
  rw [World.size_alloc, World.size_alloc, World.size_alloc] at h9
  exact Own.below (own_of_cells (by rw [List.length_replicate]; exact h9)) (bZa (Below.refl _ _) _)
 have hsz : WL.heap.size = w.heap.size + 5 := by rw [← hWL]; simp
 have HK := Aside0.mk (And.intro hB0 (And.intro hk4 (And.intro hk0 (And.intro hk1 (And.intro hk2 ho3)))))
 clear hB0 hk0 hk1 hk2 hk4 ho3
 refine callsIn_of_wp_marks Tryz.func111 rfl trivial ?_ rfl
 simp only [Tryz.ntmps111, List.size_toArray, List.length_cons, List.length_nil, Nat.reduceAdd, Nat.reduceSub, Array.replicate_succ, Array.replicate_zero, List.push_toArray, List.append_toArray, List.nil_append, List.cons_append]
 have HWL := Aside0.mk hWL
 clear hWL
 gi_wp2_with (refine ⟨trivial, ?_⟩; gi_at_call 164; refine (callsIn_wide.2 (back_mk _ _ _ _)).mono ?_; rintro e w2 ⟨rfl, rfl⟩)
 have hWL := HWL.out
 change _ = WL at hWL
 rw [show w.heap.size + 1 + 1 + 1 = w.heap.size + 3 from rfl, hWL]
 refine wpIn_back (B := w.heap.size + 4) (v := .slice A la c) (xs := digs 10000 a) rfl trivial (by omega) (by omega) rfl rfl _ rfl (ovJ w (.slice A la c) (.slice A2 lb c2) a b la) (fun _ _ => False) (ovJ_from _ _ _ _ _ _ _ (by rw [hsz]; omega)) (fun _ _ _ _ hs _ _ => hs) ?hJr ?h0
  (fun x => { tmps := #[.slice A la c, .slice A2 lb c2, undef, .pointer (some ⟨w.heap.size, 0, none⟩), .pointer (some ⟨w.heap.size + 1, 0, none⟩), .pointer (some ⟨w.heap.size + 2, 0, none⟩), .int .i64 x.1, .int .i64 x.2, undef, undef, .slice A la c, .int .i64 la, .slice (some ⟨w.heap.size + 3, 0, none⟩) la la, .slice A la c, .func (.func 200) #[] #[.pointer (some ⟨w.heap.size + 4, 0, none⟩)], .int .i64 x.1, .int .i64 x.2, undef, undef, undef, undef, undef, undef, undef, undef, undef, undef, undef, undef, undef, undef, undef, undef, undef, undef, undef, undef, undef, undef, undef, undef], defers := [] }) ?assign ?body ?done ?stop
 case hJr => exact fun k W ⟨v, R, L, h, _⟩ => ⟨h.2.1, R1.out.below h.1⟩
 case h0 =>
  refine ⟨.slice none 0 0, 0, List.replicate la 0, ⟨HK.out.1, HK.out.2.1, HK.out.2.2.1, HK.out.2.2.2.1, HK.out.2.2.2.2.1, by rw [digs_zero]; exact (Own.nil _ 0).rd, HK.out.2.2.2.2.2⟩, fun k hk => by simp [Value.ownBlock] at hk, ?_⟩
  have hz : a / 10000 ^ la = 0 := Nat.div_eq_of_lt (by rw [← hla]; exact digs_big (by decide) a)
  rw [hla]
  refine ⟨by rw [hz, Nat.zero_mod], List.length_replicate, ?_, fun j hj => ?_, ?_⟩
  ·intro d hd
   rw [(List.mem_replicate.1 hd).2]
   omega
  ·rw [List.getD_eq_getElem?_getD, List.getElem?_replicate]
   split <;> rfl
  ·rw [val_zeros, hz, Nat.zero_div, Nat.mul_zero]
 case assign =>
  intro l x W K hK
  gi_wp2
  exact hK
 case body =>
  rintro l k W hk ⟨v, R, L, ⟨hB, hk4, hk0, hk1, hk2, hr, hO⟩, hne, hN⟩
  rw [digs_rd (by decide)]
  obtain ⟨d, hd⟩ : ∃ d, a / 10000 ^ k % 10000 = d := ⟨_, rfl⟩
  rw [hd]
  have hd9 : d < 10000 := by rw [← hd]; exact Nat.mod_lt _ (by decide)
  have hRb : R < b := by rw [← hN.r]; exact Nat.mod_lt _ hb0
  obtain ⟨S, hS⟩ : ∃ S, d + 10000 * R = S := ⟨_, rfl⟩
  have HTC : Aside0 (trimL ([(d : Int)] ++ digs 10000 R) = digs 10000 S) := ⟨by rw [← hS]; exact trim_consB d R hd9⟩
  have hQ : S / b < 10000 := Nat.div_lt_of_lt_mul (by omega)
  have hb9 : b < 10000 ^ 100 := Nat.lt_of_lt_of_le (digs_big (by decide) b) (Nat.pow_le_pow_right (by decide) (by omega))
  have hlR : (digs 10000 R).length ≤ 100 := digs_len_le (by decide) (Nat.lt_trans hRb hb9)
  have hlS : (digs 10000 S).length ≤ 101 := digs_len_le (by decide) (by rw [Nat.pow_succ]; omega)
  obtain ⟨Y, hY⟩ : ∃ Y, S / b = Y := ⟨_, rfl⟩
  have hYS : b * Y ≤ S := by rw [← hY]; exact Nat.mul_div_le _ _
  have HP : Aside0 (∀ i, (S < b * (i + 1)) = (Y < i + 1)) := ⟨fun i => by rw [← hY, Nat.mul_comm]; exact propext (Nat.div_lt_iff_lt_mul hb0).symm⟩
  have HN : Aside0 (a / 10000 ^ k % b = S - b * Y ∧ a / 10000 ^ k / b = 10000 * (a / 10000 ^ (k + 1) / b) + Y) := ⟨by
   obtain ⟨e1, e2⟩ := divB a b k hb0
   rw [hd, hN.r, hS] at e1 e2
   rw [show S % b = S - b * (S / b) from Nat.mod_eq_sub_mul_div, hY] at e2
   rw [hY] at e1
   exact ⟨e2, e1⟩⟩
  rw [hY] at hQ
  have HI := Aside0.mk hN
  have hszW := hk4.lt
  have hca := (hk2.alloc (.cells #[.int .i64 (d : Int)] 3)).cell 0
  have hne2 : some (w.heap.size + 2) ≠ (Value.slice (some ⟨W.heap.size, 0, none⟩) 1 1).ownBlock := by simp [Value.ownBlock]; omega
  have HOL := Aside0.mk hO
  have HRR := Aside0.mk hr
  obtain ⟨A3, c3, rfl, -, -⟩ := hr
  clear hd hS hN hb9 hO hY
  gi_wp2_with (first | (gi_at_builtin; refine appEIn W.heap.size (.tmp 18) (.tmp 19) 166 rfl rfl Tryz.underlying166 _ [(d : Int)] (digs 10000 R) A3 _ c3 rfl rfl (own_lit1 W W.heap.size d (Nat.le_refl _)) (HRR.out.below (bZa (Below.refl _ _) _)) (by simp) (by simp; omega) ?_; intro v2 w2 ho2 hg2; have hb12 : Below W.heap.size (W.alloc (.cells #[.int .i64 (d : Int)] 3)) w2 := (Below.refl W.heap.size _).grown hg2 (by simp) (fun k e => by have e9 : some W.heap.size = some k := e; cases e9; exact Nat.le_refl _); have hBW2 : Below W.heap.size W w2 := (bZa (Below.refl _ _) _).trans hb12; have hk22 := hk2.below hBW2; have hk02 := hk0.below hBW2; have hk12 := hk1.below hBW2; have hk42 := hk4.below hBW2; have HO2 := Aside0.mk ho2) | (refine ⟨trivial, ?_⟩; gi_at_call 165; refine (CallsIn.inRound l (callsIn_wide.2 (int_trimmed _ _ _ HO2.out.rd))).mono ?_; rintro e w3 ⟨v3, rfl, hv3, rfl, ho3⟩; rw [HTC.out] at hv3; have HV3 := Aside0.mk hv3; have hc22 := hk22.cell 0; have hf22 := hk22.frozen 0; have hc02 := hk02.cell 0; have hB3 : ∀ k, v3.ownBlock = some k → W.heap.size ≤ k := fun k hk => HO2.out.base k (by rw [← ho3]; exact hk); clear ho3; obtain ⟨A5, c5, rfl, -, -⟩ := hv3; have hkn := Blk.new (w2.setCell ⟨w.heap.size + 2, 0, none⟩ (.slice A5 (digs 10000 S).length c5)) #[.nilFunc] 220; rw [set_size] at hkn; have hcn := hkn.cell 0; have hfn := hkn.frozen 0))
  have hbne : some (w.heap.size + 2) ≠ (Value.slice A5 (digs 10000 S).length c5).ownBlock := fun e => by have := hB3 _ e.symm; omega
  have hBX : Below w.heap.size w ((w2.setCell ⟨w.heap.size + 2, 0, none⟩ (.slice A5 (digs 10000 S).length c5)).alloc (.cells #[.func (.func 166) #[.slice A2 lb c2] #[]] 220)) := bZa (bZe (bZs hB hBW2) (by simp)) _
  have hXr := (hk22.set 0 (.slice A5 (digs 10000 S).length c5)).alloc (.cells #[.func (.func 166) #[.slice A2 lb c2] #[]] 220)
  have hXm := (hk02.far (p := ⟨w.heap.size + 2, 0, none⟩) (by simp) (.slice A5 (digs 10000 S).length c5)).alloc (.cells #[.func (.func 166) #[.slice A2 lb c2] #[]] 220)
  have hXq := (hk12.far (p := ⟨w.heap.size + 2, 0, none⟩) (by simp) (.slice A5 (digs 10000 S).length c5)).alloc (.cells #[.func (.func 166) #[.slice A2 lb c2] #[]] 220)
  have hXl := (hk42.far (p := ⟨w.heap.size + 2, 0, none⟩) (by simp) (.slice A5 (digs 10000 S).length c5)).alloc (.cells #[.func (.func 166) #[.slice A2 lb c2] #[]] 220)
  have hXb := Blk.new (w2.setCell ⟨w.heap.size + 2, 0, none⟩ (.slice A5 (digs 10000 S).length c5)) #[.func (.func 166) #[.slice A2 lb c2] #[]] 220
  rw [set_size] at hXb
  have hXR := (HV3.out.set hbne 0 (.slice A5 (digs 10000 S).length c5)).below (bZa (Below.refl _ _) (.cells #[.func (.func 166) #[.slice A2 lb c2] #[]] 220))
  have hXO := ((HOL.out.below hBW2).set hk22 (by decide) 0 (.slice A5 (digs 10000 S).length c5)).below (bZa (Below.refl _ _) (.cells #[.func (.func 166) #[.slice A2 lb c2] #[]] 220))
  have hXK : KeepsOthers W ((w2.setCell ⟨w.heap.size + 2, 0, none⟩ (.slice A5 (digs 10000 S).length c5)).alloc (.cells #[.func (.func 166) #[.slice A2 lb c2] #[]] 220)) := ((keeps_below hBW2).trans (KeepsOthers.setCell _ _ _)).trans (keeps_below (bZa (Below.refl _ _) _))
  have hw2 : W.heap.size ≤ w2.heap.size := hBW2.size
  generalize ((w2.setCell ⟨w.heap.size + 2, 0, none⟩ (.slice A5 (digs 10000 S).length c5)).alloc (.cells #[.func (.func 166) #[.slice A2 lb c2] #[]] 220)) = WX at *
  clear hg2 hb12 hBW2 hk22 hk02 hk12 hk42 hkn hcn hfn hc22 hf22 hc02 hbne HO2 ho2 HV3
  generalize w2.heap.size = bb at *
  clear hk0 hk1 hk2 hk4 hca hne2 HRR hne HOL
  have hB5 : ∀ k, (Value.slice A5 (digs 10000 S).length c5).ownBlock = some k → w.heap.size + 4 < k := fun k hk => by have := hB3 k hk; omega
  have SR : ∀ W', Below w.heap.size w W' → Blk W' bb #[.func (.func 166) #[.slice A2 lb c2] #[]] 220 → Blk W' (w.heap.size + 2) #[.slice A5 (digs 10000 S).length c5] 166 → Rd W' (.slice A5 (digs 10000 S).length c5) (digs 10000 S) → Calls Tryz.prog 168 #[.int .i64 9999, .func (.func 167) #[] #[.pointer (some ⟨bb, 0, none⟩), .pointer (some ⟨w.heap.size + 2, 0, none⟩)]] W' fun e w' => e = .returned (.int .i64 Y) ∧ Below W'.heap.size W' w' := fun W' g1 g2 g3 g4 =>
   sort_Search 9999 167 #[.pointer (some ⟨bb, 0, none⟩), .pointer (some ⟨w.heap.size + 2, 0, none⟩)] (fun i => decide (S < b * (i + 1))) Y W' (by decide) (by omega) (fun i hi => by show decide _ = _; rw [decide_eq_false]; rw [HP.out]; omega) (fun i hi _ => by show decide _ = _; rw [decide_eq_true]; rw [HP.out]; omega) (enters_of Tryz.func167 (by kernel_rfl) rfl) (fun W2 i hb hi => int_over1 A2 A5 c2 c5 lb (digs 10000 S).length b S i bb (w.heap.size + 2) W2 (g2.below hb) (g3.below hb) (R2.out.below (bZs g1 hb)) (g4.below hb) (by omega) (by omega) hi)
  have hXqD := hXq.drew
  have hXcq := hXq.cell 0
  have hki : (k : Int) < la := by omega
  refine wpIn_cut (fun w' => ∃ w4, Below WX.heap.size WX w4 ∧ w' = w4.setCell ⟨w.heap.size + 3, k, none⟩ (.int .i64 Y)) ?_
  apply Exists.intro
  apply And.intro
  ·gi_region_with (refine ⟨trivial, ?_⟩; gi_at_call 168; refine (CallsIn.inRound l (callsIn_wide.2 (SR _ (bZd hBX) hXb.drew hXr.drew (hXR.below (bZd (Below.refl _ _)))))).mono ?_; rintro e w4 ⟨rfl, hb4⟩; have h4q := hXqD.below hb4; have hc4q := h4q.cell 0; have hO4 := (hXO.below (bZd (Below.refl _ _))).below hb4; obtain ⟨hx4, hf4⟩ := Kd.R_celln 0 hO4 (k : Int) (by omega) hki; rw [Int.toNat_natCast] at hx4 hf4)
   all_goals exact ⟨rfl, rfl, w4, bZs (bZd (Below.refl _ _)) hb4, rfl⟩
  ·rintro w' ⟨w4, hb4, rfl⟩
   have h8r := (hXr.below hb4).far (p := ⟨w.heap.size + 3, k, none⟩) (by simp) (.int .i64 Y)
   have h8m := (hXm.below hb4).far (p := ⟨w.heap.size + 3, k, none⟩) (by simp) (.int .i64 Y)
   have h8q := (hXq.below hb4).far (p := ⟨w.heap.size + 3, k, none⟩) (by simp) (.int .i64 Y)
   have h8l := (hXl.below hb4).far (p := ⟨w.heap.size + 3, k, none⟩) (by simp) (.int .i64 Y)
   have h8b := (hXb.below hb4).far (p := ⟨w.heap.size + 3, k, none⟩) (by show bb ≠ w.heap.size + 3; omega) (.int .i64 Y)
   have h8R := (hXR.below hb4).set (b := w.heap.size + 3) (fun e => by have := hB5 _ e.symm; omega) k (.int .i64 Y)
   have h8O := Kd.R_putn (hXO.below hb4) (k : Int) (Y : Int)
   rw [Int.toNat_natCast] at h8O
   change Own _ _ _ _ at h8O
   have h8K : KeepsOthers W (w4.setCell ⟨w.heap.size + 3, k, none⟩ (.int .i64 Y)) := (hXK.trans (keeps_below hb4)).trans (KeepsOthers.setCell _ _ _)
   have h8B := bZe (g := w.heap.size + 3) (j := k) (v := .int .i64 Y) (bZs hBX hb4) (by omega)
   generalize w4.setCell ⟨w.heap.size + 3, k, none⟩ (.int .i64 Y) = W8 at *
   have hkL : k < L.length := by have := HI.out.len; omega
   obtain ⟨hx8, -⟩ := Kd.R_celln 0 h8O (k : Int) (by omega) hki
   rw [rd_set_same L k (Y : Int) hkL, Int.toNat_natCast] at hx8
   clear hXr hXm hXq hXl hXb hXR hXO hXK hb4 SR hXqD hXcq hBX
   have h8qD := h8q.drew
   have h8rD := h8r.drew
   have h8bD := h8b.drew
   have h8RD := h8R.below (bZd (Below.refl _ _))
   have h8BD := bZd h8B
   have c8r := h8r.cell 0
   have c8q := h8q.cell 0
   have c8b := h8b.cell 0
   have R28 := R2.out.below h8BD
   have BY := fun W h => int_by (.slice A2 lb c2) b Y W h (by omega) (by omega)
   have MI := fun v3 W h h' => int_minus (.slice A5 (digs 10000 S).length c5) v3 S (b * Y) W h h' (by omega) hYS
   gi_wp2
   refine wpIn_cut3 (fun (v5 : Value) (A6 : Option Addr) (c6 : Nat) w' => ∃ w6, Below W8.heap.size W8 w6 ∧ Rd w6 (.slice A6 (digs 10000 (S - b * Y)).length c6) (digs 10000 (S - b * Y)) ∧ (∀ k, (Value.slice A6 (digs 10000 (S - b * Y)).length c6).ownBlock = some k → W8.heap.size ≤ k) ∧ w' = w6.setCell ⟨w.heap.size + 2, 0, none⟩ (.slice A6 (digs 10000 (S - b * Y)).length c6)) ?_
   apply Exists.intro
   apply And.intro
   ·gi_region_with (first | (refine ⟨trivial, ?_⟩; gi_at_call 166; refine (CallsIn.inRound l (callsIn_wide.2 (BY _ R28))).mono ?_; rintro e w5 ⟨v5, rfl, hv5, hb5, hw5⟩; have h5r := h8rD.below hb5; have h5q := h8qD.below hb5; have c5r := h5r.cell 0; have c5q := h5q.cell 0; have R55 := h8RD.below hb5) | (refine ⟨trivial, ?_⟩; gi_at_call 114; refine (CallsIn.inRound l (callsIn_wide.2 (MI _ _ R55 hv5))).mono ?_; rintro e w6 ⟨v6, rfl, hv6, hb6, hw6⟩; have h6r := h5r.below hb6; have c6r := h6r.cell 0; have f6r := h6r.frozen 0; have HV6 := Aside0.mk hv6; obtain ⟨A6, c6, rfl, -, -⟩ := hv6))
    all_goals exact ⟨v5, A6, c6, rfl, rfl, w6, bZs (bZd (Below.refl _ _)) (bZs hb5 hb6), HV6.out, fun q hq => Nat.le_trans hb5.size (hw6 q hq), rfl⟩
   ·rintro v5 A6 c6 w' ⟨w6, hb6, hv6, hw6, rfl⟩
    have h8s := h8l.lt
    gi_wp2
    refine ⟨(h8K.trans ((keeps_below hb6).trans (KeepsOthers.setCell _ _ _))).from _, .slice A6 (digs 10000 (S - b * Y)).length c6, S - b * Y, L.set k (Y : Int), ⟨bZe (bZs h8B hb6) (by simp), (h8l.below hb6).far (by simp) _, (h8m.below hb6).far (by simp) _, (h8q.below hb6).far (by simp) _, (h8r.below hb6).set 0 _, hv6.set (fun e => by have := hw6 _ e.symm; omega) 0 _, (h8O.below hb6).set (h8r.below hb6) (by decide) 0 _⟩, fun q hq => by have := hw6 q hq; omega, HN.out.1, ?_, dig_set HI.out.dig (by omega), ?_, ?_⟩
    ·rw [List.length_set]; exact HI.out.len
    ·intro j hj
     rw [List.getD_eq_getElem?_getD, List.getElem?_set_ne (by omega), ← List.getD_eq_getElem?_getD]
     exact HI.out.zero j (by omega)
    ·have e1 := val_set 10000 L k (Y : Int) hkL
     rw [HI.out.zero k (by omega), HI.out.val, Int.toNat_natCast] at e1
     rw [HN.out.2, Nat.mul_add, ← Nat.mul_assoc, ← Nat.pow_succ]
     exact e1
 case done =>
  rintro D W hD ⟨v, R, L, ⟨hB, hk4, hk0, hk1, hk2, hr, hO⟩, hne, hN⟩ hK
  have HT : Aside0 (trimL L = digs 10000 (a / b)) := ⟨by rw [trimL_val (by decide) _ hN.dig, hN.val]; simp⟩
  have HR : Aside0 (a % b = R) := ⟨by have := hN.r; rwa [Nat.pow_zero, Nat.div_one] at this⟩
  have HRR := Aside0.mk hr
  obtain ⟨A3, c3, rfl, -, -⟩ := hr
  have c1 := hk1.cell 0
  have c2 := hk2.cell 0
  have f1 := hk1.frozen 0
  have f2 := hk2.frozen 0
  have k1D := hk1.drew
  have k2D := hk2.drew
  have HOD := hO.rd.below (bZd (Below.refl _ _))
  gi_wp2
  refine wpIn_cut2 (fun (A5 : Option Addr) (c5 : Nat) w' => Rd W (.slice A5 (digs 10000 (a / b)).length c5) (digs 10000 (a / b)) ∧ (Value.slice A5 (digs 10000 (a / b)).length c5).ownBlock = some (w.heap.size + 3) ∧ w' = ((W.setCell ⟨w.heap.size + 1, 0, none⟩ (.slice A5 (digs 10000 (a / b)).length c5)).setCell ⟨w.heap.size + 2, 0, none⟩ (.slice A3 (digs 10000 R).length c3)).drew) ?_
  apply Exists.intro
  apply And.intro
  ·gi_region_with (refine ⟨trivial, ?_⟩; gi_at_call 165; refine (callsIn_wide.2 (int_trimmed _ _ _ HOD)).mono ?_; rintro e w3 ⟨v3, rfl, hv3, rfl, ho3⟩; rw [HT.out] at hv3; have HV3 := Aside0.mk hv3; obtain ⟨A5, c5, rfl, -, -⟩ := hv3)
   all_goals exact ⟨A5, c5, rfl, rfl, HV3.out, ho3, rfl⟩
  ·rintro A5 c5 w' ⟨hv5, ho5, rfl⟩
   have hh1 := hk1.set 0 (.slice A5 (digs 10000 (a / b)).length c5)
   have hh2 := hk2.far (p := ⟨w.heap.size + 1, 0, none⟩) (by simp) (.slice A5 (digs 10000 (a / b)).length c5)
   have hK2 := def_set (i := 0) (v := .slice A5 (digs 10000 (a / b)).length c5) hk1 hK
   have hK3 := def_set (i := 0) (v := .slice A3 (digs 10000 R).length c3) hh2 hK2
   have hh3 := hh2.set 0 (.slice A3 (digs 10000 R).length c3)
   have hh4 := hh1.far (p := ⟨w.heap.size + 2, 0, none⟩) (by simp) (.slice A3 (digs 10000 R).length c3)
   have RQ := (hv5.set (b := w.heap.size + 1) (by rw [ho5]; simp) 0 (.slice A5 (digs 10000 (a / b)).length c5)).set (b := w.heap.size + 2) (by rw [ho5]; simp) 0 (.slice A3 (digs 10000 R).length c3)
   have RR := (HRR.out.set (b := w.heap.size + 1) (fun e => by have := hne _ e.symm; omega) 0 (.slice A5 (digs 10000 (a / b)).length c5)).set (b := w.heap.size + 2) (fun e => by have := hne _ e.symm; omega) 0 (.slice A3 (digs 10000 R).length c3)
   have BB := bZd (bZe (g := w.heap.size + 2) (j := 0) (v := .slice A3 (digs 10000 R).length c3) (bZe (g := w.heap.size + 1) (j := 0) (v := .slice A5 (digs 10000 (a / b)).length c5) hB (by simp)) (by simp))
   have RQD := RQ.below (bZd (Below.refl _ _))
   have RRD := RR.below (bZd (Below.refl _ _))
   have hh3D := hh3.drew
   have hh4D := hh4.drew
   have hK4 : (World.heap (World.drew ((W.setCell ⟨w.heap.size + 1, 0, none⟩ (.slice A5 (digs 10000 (a / b)).length c5)).setCell ⟨w.heap.size + 2, 0, none⟩ (.slice A3 (digs 10000 R).length c3))))[D]? = some (.deferred (some [])) := hK3
   generalize ((W.setCell ⟨w.heap.size + 1, 0, none⟩ (.slice A5 (digs 10000 (a / b)).length c5)).setCell ⟨w.heap.size + 2, 0, none⟩ (.slice A3 (digs 10000 R).length c3)).drew = WE at *
   clear hh1 hh2 hh3 hh4 hK2 hK3 RQ RR
   gi_wp2
   refine ⟨by simp, .inl ⟨_, _, rfl, run_takeDeferred hK4, ?_⟩⟩
   have hc3 := (hh3D.done hK4).cell 0
   have hc4 := (hh4D.done hK4).cell 0
   refine ⟨.tuple #[.slice A5 (digs 10000 (a / b)).length c5, .slice A3 (digs 10000 R).length c3], by simp [results, Tryz.results111, go_sem, hc3, hc4, asAddr], _, _, rfl, RQD.done hK4, ?_, below_done BB (by omega) hK4⟩
   rw [HR.out]
   exact RRD.done hK4
 case stop =>
  rintro D c W hD h _
  exact h.elim
theorem int_over (u v : Value) (a b : Nat) (w : World) (h1 : Rd w u (digs 10000 a)) (h2 : Rd w v (digs 10000 b)) (hl1 : (digs 10000 a).length ≤ 100) (hl2 : (digs 10000 b).length ≤ 100) (hb0 : 0 < b) :
  Calls Tryz.prog 111 #[u, v] w fun e w' => ∃ v1 v2, e = .returned (.tuple #[v1, v2]) ∧ Rd w' v1 (digs 10000 (a / b)) ∧ Rd w' v2 (digs 10000 (a % b)) ∧ Below w.heap.size w w' :=
 callsIn_wide.1 (over_in u v a b w h1 h2 hl1 hl2 hb0)
end Go.Proofs.YtociicfjhgfgpaaGreatDoor

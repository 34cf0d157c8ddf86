/- integer: times: the walk. integer: the search for a digit of a quotient: the walks. -/
import Derived.Test.YtociicfjhgfgpaaGreatDoorR05
import Derived.Stop.RegionWithIn
import Derived.Deep.RegionWith
import Derived.Laws.BitsLemmas
set_option linter.unusedVariables false
set_option linter.unusedSimpArgs false
set_option maxHeartbeats 4000000
set_option maxRecDepth 100000
namespace Go.Proofs.YtociicfjhgfgpaaGreatDoor
open Go.RowKit Go.Shelf Go.Proofs.YtociicfjhgfgpaaGreatDoorW.PrintWords
attribute [local go_sem] Oper.semAt_some
theorem rd_from {β : Type} (B0 : Nat) (v : β → Value) (f : β → List Int) : OwnFrom B0 (fun (s : β) W => Rd W (v s) (f s)) := fun s X Y row hs hg hrow => by
 obtain ⟨A, c, he, hc, h1, h2, h3⟩ := (show Rd X (v s) (f s) from hs)
 refine ⟨A, c, he, hc, h1, h2, fun hq => ?_⟩
 obtain ⟨ad, rfl, hh⟩ := h3 hq
 refine ⟨ad, rfl, fun j x hj => ?_⟩
 obtain ⟨cs, hl, hk, hcell⟩ := hh j x hj
 refine ⟨cs, hl, hk, fun i z hz => ?_⟩
 have hcz := hcell i z hz
 have hb : (ad.add (j * (Kd.int .i64).sz + i)).block = ad.block := by unfold Addr.add; split <;> rfl
 have hlt : ad.block < X.heap.size := by
  have := World.block_lt_of_cell? _ _ hcz
  rwa [hb] at this
 rw [World.cell?_of_block (w := X) (a := ad.add (j * (Kd.int .i64).sz + i))]
 ·exact hcz
 ·rw [hb]
  refine hg.block _ hlt (fun e => ?_)
  obtain ⟨_, o, ho, hcc⟩ := hrow ad.block e.symm
  unfold World.cell? at hcz
  rw [hb, ho] at hcz
  cases o <;> simp_all [Obj.isCells]
theorem Rd.done {W : World} {D : Nat} {v : Value} {xs : List Int} (h : Rd W v xs) (hK : W.heap[D]? = some (.deferred (some []))) : Rd (W.putObj D (.deferred none)) v xs :=
 rd_from 0 (fun _ : Unit => v) (fun _ => xs) () W _ (some D) h (grownBy_putObj' W D _) (fun r e => by cases e; exact ⟨Nat.zero_le _, _, hK, rfl⟩)
theorem keeps_below {W W' : World} (h : Below W.heap.size W W') : KeepsOthers W W' := ⟨h.size, fun k _ hk _ => (h.block k (Array.getElem?_eq_some_iff.1 hk).1).trans hk⟩
theorem nums_app (xs ys : List Int) : nums .i64 (xs ++ ys) = nums .i64 xs ++ nums .i64 ys := by simp [nums]
theorem nums_at (xs : List Int) (j : Nat) (u : Value) (h : (nums .i64 xs)[j]? = some u) : j < xs.length ∧ u = .int .i64 (rd xs (j : Int)) := by
 unfold nums at h
 rw [List.getElem?_map] at h
 have hj : j < xs.length := by
  rcases Nat.lt_or_ge j xs.length with q | q
  ·exact q
  ·rw [List.getElem?_eq_none q] at h; cases h
 refine ⟨hj, ?_⟩
 rw [List.getElem?_eq_getElem hj] at h
 unfold rd
 rw [Int.toNat_natCast, List.getD_eq_getElem?_getD, List.getElem?_eq_getElem hj]
 simpa using h.symm
theorem appNIn {F : Fence} {n : Nat} {ops : Array Oper} {rest : List Oper} {o : Oper} {a : Act} {Q : Exit → Act → World → Prop} {W : World} (base : Nat) (s x : Operand) (t : TypeId) (hgd : o.guard = none) (ho : o.op = .call { callee := .builtin .append, args := #[s, x], argTypes := #[t, t] })
  (ht : Tryz.prog.underlying t = some (.slice 3)) (v : Value) (xs ys : List Int) (A : Option Addr) (m c : Nat) (hs : a.eval s = v) (hx : a.eval x = .slice A m c)
  (HO : Own W base v xs) (HR : Rd W (.slice A m c) ys) (hm : 0 < m) (hbase : base ≤ W.heap.size) (hl : xs.length + m < 17592186044415)
  (h : ∀ v1 w1, Own w1 base v1 (xs ++ ys) → W.grownBy w1 v.ownBlock → wpListIn F n Tryz.prog ops Q rest (a.put o.dst v1) w1) :
  wpListIn F n Tryz.prog ops Q (o :: rest) a W := by
 obtain ⟨i0, hi, hzz⟩ := Option.map_eq_some_iff.1 info3
 simp only [Prod.mk.injEq] at hzz
 obtain ⟨hz0, hz1, hz2⟩ := hzz
 obtain ⟨hC, hym⟩ := HR.reads
 obtain ⟨ad, rfl, _⟩ := Kd.at_int hC 0 (by omega) (by omega)
 refine wpListIn_append_own W hgd s x t ho base 3 i0 (.int .i64 0) 1 8 ht hi hz0 hz1 hz2 rfl (by decide) v xs.length (nums .i64 xs) hs HO.cells ad m c (nums .i64 ys) hx (by simp [nums, hym]) ?_ ?_ (by unfold maxLen; omega) (by omega) hbase ?_
 ·intro j u hj
  obtain ⟨h1, rfl⟩ := nums_at ys j u hj
  obtain ⟨ad', e, hc⟩ := Kd.at_int hC (j : Int) (by omega) (by omega)
  injection e with e
  subst e
  rw [Int.toNat_natCast] at hc
  exact hc
 ·intro u hu
  unfold nums at hu
  obtain ⟨z, _, rfl⟩ := List.mem_map.1 hu
  rfl
 ·intro v' w' hown hg _
  refine h v' w' (own_of_cells ?_) hg
  rw [List.length_append, nums_app, hym]
  exact hown
def timJ (w : World) (u m : Value) (a b : Nat) (k : Nat) (W : World) : Prop :=
 ∃ v, ((Below w.heap.size w W ∧ (Blk W (w.heap.size + 2) #[m] 166 ∧ (Blk W w.heap.size #[u] 166 ∧ Blk W (w.heap.size + 1) #[v] 166))) ∧ Rd W v (digs 10000 (a * (b / 10000 ^ k)))) ∧ some (w.heap.size + 1) ≠ v.ownBlock
theorem timJ_from (w : World) (u m : Value) (a b B : Nat) (hB : w.heap.size ≤ B) : OwnFrom B (timJ w u m a b) :=
 ownFrom_ex fun v => OwnFrom.and (OwnFrom.and (OwnFrom.and (ownFrom_below (Nat.le_refl _) hB) (OwnFrom.and (blk_from B _ _ (fun _ => #[m])) (OwnFrom.and (blk_from B _ _ (fun _ => #[u])) (blk_from B _ _ (fun _ => #[v]))))) (rd_from B (fun _ => v) (fun k => digs 10000 (a * (b / 10000 ^ k))))) (fun _ _ _ _ hs _ _ => hs)
theorem times_in (u v : Value) (a b : Nat) (w : World) (h1 : Rd w u (digs 10000 a)) (h2 : Rd w v (digs 10000 b)) (hl1 : (digs 10000 a).length ≤ 100) (hl2 : (digs 10000 b).length ≤ 100) :
  CallsIn Fence.wide 8 Tryz.prog 209 #[u, v] w fun e w' => ∃ v', e = .returned v' ∧ Rd w' v' (digs 10000 (a * b)) ∧ Below w.heap.size w w' := by
 have R1 := Aside0.mk h1
 have R2 := Aside0.mk h2
 obtain ⟨A, c, rfl, -, -⟩ := h1
 obtain ⟨A2, c2, rfl, -, -⟩ := h2
 generalize hla : (digs 10000 a).length = la at *
 generalize hlb : (digs 10000 b).length = lb at *
 have hB0 : Below w.heap.size w (((w.alloc (.cells #[.slice A la c] 166)).alloc (.cells #[.slice none 0 0] 166)).alloc (.cells #[.slice A2 lb c2] 166)) := bZa (bZa (bZa (Below.refl _ _) _) _) _
 have hk0 : Blk (((w.alloc (.cells #[.slice A la c] 166)).alloc (.cells #[.slice none 0 0] 166)).alloc (.cells #[.slice A2 lb c2] 166)) w.heap.size #[.slice A la c] 166 := ((Blk.new w _ _).alloc _).alloc _
 have hk1 : Blk (((w.alloc (.cells #[.slice A la c] 166)).alloc (.cells #[.slice none 0 0] 166)).alloc (.cells #[.slice A2 lb c2] 166)) (w.heap.size + 1) #[.slice none 0 0] 166 := by
  have := (Blk.new (w.alloc (.cells #[.slice A la c] 166)) #[.slice none 0 0] 166).alloc (.cells #[.slice A2 lb c2] 166)
  rwa [World.size_alloc] at this
 have hk2 : Blk (((w.alloc (.cells #[.slice A la c] 166)).alloc (.cells #[.slice none 0 0] 166)).alloc (.cells #[.slice A2 lb c2] 166)) (w.heap.size + 2) #[.slice A2 lb c2] 166 := by
  have := Blk.new ((w.alloc (.cells #[.slice A la c] 166)).alloc (.cells #[.slice none 0 0] 166)) #[.slice A2 lb c2] 166
  rwa [World.size_alloc, World.size_alloc] at this
 have HK := Aside0.mk (And.intro hB0 (And.intro hk2 (And.intro hk0 hk1)))
 clear hB0 hk0 hk1 hk2
 have hz : a * (b / 10000 ^ lb) = 0 := by
  have := digs_big (b := 10000) (by decide) b
  rw [hlb] at this
  rw [Nat.div_eq_of_lt this, Nat.mul_zero]
 refine callsIn_of_wp_marks Tryz.func209 rfl trivial ?_ rfl
 simp only [Tryz.ntmps209, List.size_toArray, List.length_cons, List.length_nil, Nat.reduceAdd, Nat.reduceSub, Array.replicate_succ, Array.replicate_zero, List.push_toArray, List.append_toArray, List.nil_append, List.cons_append]
 gi_wp2_with (refine ⟨trivial, ?_⟩; gi_at_call 164; refine (callsIn_wide.2 (back_mk _ _ _ _)).mono ?_; rintro e w2 ⟨rfl, rfl⟩)
 refine wpIn_back (B := w.heap.size + 2) (v := .slice A2 lb c2) (xs := digs 10000 b) rfl trivial (by omega) (by omega) (by simp [Act.eval, World.size_alloc]) rfl _ rfl (timJ w (.slice A la c) (.slice A2 lb c2) a b) (fun _ _ => False) (timJ_from _ _ _ _ _ _ (by simp; omega)) (fun _ _ _ _ hs _ _ => hs) ?hJr ?h0
  (fun x => { tmps := #[.slice A la c, .slice A2 lb c2, .pointer (some ⟨w.heap.size, 0, none⟩), undef, .slice none 0 0, .pointer (some ⟨w.heap.size + 1, 0, none⟩), undef, .int .i64 x.2, .slice A2 lb c2, .func (.func 200) #[] #[.pointer (some ⟨w.heap.size + 1 + 1, 0, none⟩)], .int .i64 x.1, .int .i64 x.2, undef, undef, undef, undef, undef, undef, undef, undef, undef, undef, undef, undef], defers := [] }) ?assign ?body ?done ?stop
 case hJr => exact fun k W ⟨v, h, _⟩ => ⟨h.1.2.1, R2.out.below h.1.1⟩
 case h0 => exact ⟨.slice none 0 0, ⟨HK.out, by rw [hlb, hz, digs_zero]; exact (Own.nil _ 0).rd⟩, by simp [Value.ownBlock]⟩
 case assign =>
  intro l x W K hK
  gi_wp2
  exact hK
 case body =>
  rintro l k W hk ⟨v, ⟨⟨hB, hk2, hk0, hk1⟩, hr⟩, hne⟩
  rw [digs_rd (by decide)]
  obtain ⟨d, hd⟩ : ∃ d, b / 10000 ^ k % 10000 = d := ⟨_, rfl⟩
  have hd9 : d ≤ 9999 := by have := Nat.mod_lt (b / 10000 ^ k) (show 0 < 10000 by decide); omega
  obtain ⟨p, hp⟩ : ∃ p, a * (b / 10000 ^ (k + 1)) = p := ⟨_, rfl⟩
  have hnext : a * (b / 10000 ^ k) = 10000 * p + a * d := by
   rw [← hp, Nat.pow_succ, ← Nat.div_div_eq_div_mul]
   have h9 := Nat.div_add_mod (b / 10000 ^ k) 10000
   rw [hd] at h9
   conv => lhs; rw [← h9]
   rw [Nat.mul_add, Nat.mul_left_comm]
  rw [hd]
  rw [hp] at hr
  obtain ⟨ad, had⟩ : ∃ ad, a * d = ad := ⟨_, rfl⟩
  obtain ⟨q, hq⟩ : ∃ q, 10000 * p + ad = q := ⟨_, rfl⟩
  rw [had, hq] at hnext
  have HQ := Aside0.mk hnext
  have ha9 : a < 10000 ^ 100 := Nat.lt_of_lt_of_le (digs_big (by decide) a) (Nat.pow_le_pow_right (by decide) (by omega))
  have hb9 : b < 10000 ^ 100 := Nat.lt_of_lt_of_le (digs_big (by decide) b) (Nat.pow_le_pow_right (by decide) (by omega))
  have hp9 : p < 10000 ^ 200 := by
   rw [← hp, show (10000 : Nat) ^ 200 = 10000 ^ 100 * 10000 ^ 100 by rw [← Nat.pow_add]]
   exact Nat.mul_lt_mul_of_lt_of_le ha9 (Nat.le_of_lt (Nat.lt_of_le_of_lt (Nat.div_le_self _ _) hb9)) (Nat.pow_pos (by decide))
  have hlp : (digs 10000 p).length ≤ 200 := digs_len_le (by decide) hp9
  have hlad : (digs 10000 ad).length ≤ 101 := digs_len_le (by decide) (by
   rw [← had, Nat.pow_succ]
   exact Nat.mul_lt_mul_of_lt_of_le ha9 (by omega) (by decide))
  have hl10 : (digs 10000 (10000 * p)).length ≤ 5000 := Nat.le_trans (digs_len_le (k := 201) (by decide) (by rw [Nat.pow_succ]; omega)) (by decide)
  have BY := fun W h => int_by (.slice A la c) a d W h (by omega) hd9
  rw [had] at BY
  have PL := fun v3 v W h h' => int_plus v v3 (10000 * p) ad W h h' hl10 (by omega)
  rw [hq] at PL
  have HR := Aside0.mk hr
  have hc0 := hk0.cell 0
  have hc1 := hk1.cell 0
  have hf1 := hk1.frozen 0
  have hW2 := hk2.lt
  clear hp hd hnext hz hk had hq hl10 hlad ha9 hb9 hp9
  have NE : Aside0 (∀ (v : Value), (∀ k, v.ownBlock = some k → w.heap.size + 2 < k) → some (w.heap.size + 1) ≠ v.ownBlock) := ⟨fun v h e => by have := h _ e.symm; omega⟩
  obtain ⟨A3, c3, rfl, -, -⟩ := hr
  by_cases hp0 : p = 0
  ·subst hp0
   rw [digs_zero] at HR hne hk1 hc1
   have HR0 : Rd W.drew (.slice A3 0 c3) (digs 10000 (10000 * 0)) := by rw [Nat.mul_zero, digs_zero]; exact HR.out.below (bZd (Below.refl _ _))
   have R10 := R1.out.below (bZd hB)
   have hBD := bZd hB
   have hk1D := hk1.drew
   have hk2D := hk2.drew
   have hk0D := hk0.drew
   gi_wp2
   gi_region_with (first | (refine ⟨trivial, ?_⟩; gi_at_call 166; refine (CallsIn.inRound l (callsIn_wide.2 (BY _ R10))).mono ?_; rintro e w3 ⟨v3, rfl, hv3, hb3, hw3⟩; have HB3 := bZs hBD hb3; have hk13 := hk1D.below hb3; have hc13 := hk13.cell 0; have hf13 := hk13.frozen 0; have HR3 := HR0.below hb3) | (refine ⟨trivial, ?_⟩; gi_at_call 112; refine (CallsIn.inRound l (callsIn_wide.2 (PL _ _ _ HR3 hv3))).mono ?_; rintro e w4 ⟨v4, rfl, hv4, hb4, hw4⟩; have hk14 := hk13.below hb4; have hc14 := hk14.cell 0; have hf14 := hk14.frozen 0; have HV4 := Aside0.mk hv4; obtain ⟨A4, c4, rfl, -, -⟩ := hv4))
   all_goals (
    gi_wp2
    refine ⟨(KeepsOthers.trans (KeepsOthers.drew W) (KeepsOthers.trans (keeps_below (bZs hb3 hb4)) (KeepsOthers.setCell _ _ _))).from _, .slice A4 (digs 10000 q).length c4, ⟨⟨bZe (bZs HB3 hb4) (Nat.le_succ _), ((hk2D.below hb3).below hb4).far (by simp) _, ((hk0D.below hb3).below hb4).far (by simp) _, hk14.set 0 _⟩, ?_⟩, NE.out _ (fun k hk => by have h1 := hw4 k hk; have h2 := hb3.size; have h3 : W.drew.heap.size = W.heap.size := rfl; omega)⟩
    rw [HQ.out]
    exact HV4.out.set (NE.out _ (fun k hk => by have h1 := hw4 k hk; have h2 := hb3.size; have h3 : W.drew.heap.size = W.heap.size := rfl; omega)) 0 _)
  ·have hpp : 0 < (digs 10000 p).length := by
    rw [digs_pos (by decide) (by omega)]
    simp
   have hpi : ((digs 10000 p).length : Int) > 0 := by omega
   have HCONS : Aside0 ([(0 : Int)] ++ digs 10000 p = digs 10000 (10000 * p)) := ⟨by
    rw [digs_pos (b := 10000) (n := 10000 * p) (by decide) (by omega)]
    rw [show 10000 * p % 10000 = 0 by omega, show 10000 * p / 10000 = p by omega]
    rfl⟩
   have hbk : some (w.heap.size + 1) ≠ (Value.slice (some ⟨W.heap.size, 0, none⟩) 1 1).ownBlock := by simp [Value.ownBlock]; omega
   have hbk2 : some (w.heap.size + 2) ≠ (Value.slice (some ⟨W.heap.size, 0, none⟩) 1 1).ownBlock := by simp [Value.ownBlock]; omega
   have hbk0 : some w.heap.size ≠ (Value.slice (some ⟨W.heap.size, 0, none⟩) 1 1).ownBlock := by simp [Value.ownBlock]; omega
   have hca := (hk1.alloc (.cells #[.int .i64 0] 3)).cell 0
   gi_wp2_with (gi_at_builtin; refine appNIn W.heap.size (.tmp 15) (.tmp 16) 166 rfl rfl Tryz.underlying166 _ [0] (digs 10000 p) A3 _ c3 rfl rfl (own_lit1 W W.heap.size 0 (Nat.le_refl _)) (HR.out.below (bZa (Below.refl _ _) _)) hpp (by simp) (by simp; omega) ?_; intro v2 w2 ho2 hg2; have hk12 := (hk1.alloc _).kept hg2 hbk; have hc12 := hk12.cell 0; have hf12 := hk12.frozen 0; have HO2 := Aside0.mk ho2; obtain ⟨A2', c2', rfl, -, -⟩ := ho2.rd)
   have hb1 : Below W.heap.size (W.alloc (.cells #[.int .i64 0] 3)) w2 := (Below.refl W.heap.size _).grown hg2 (by simp) (fun k e => by have e9 : some W.heap.size = some k := e; cases e9; exact Nat.le_refl _)
   have hBW2 : Below W.heap.size W w2 := (bZa (Below.refl _ _) _).trans hb1
   have HO3 : Own w2 W.heap.size (.slice A2' ((digs 10000 p).length + 1) c2') (digs 10000 (10000 * p)) := by rw [← HCONS.out]; exact HO2.out
   have hk1W := hk12.set 0 (.slice A2' ((digs 10000 p).length + 1) c2')
   have hk2W := (hk2.below hBW2).far (p := ⟨w.heap.size + 1, 0, none⟩) (by simp) (.slice A2' ((digs 10000 p).length + 1) c2')
   have hk0W := (hk0.below hBW2).far (p := ⟨w.heap.size + 1, 0, none⟩) (by simp) (.slice A2' ((digs 10000 p).length + 1) c2')
   have hBw := bZe (g := w.heap.size + 1) (j := 0) (v := .slice A2' ((digs 10000 p).length + 1) c2') (bZs hB hBW2) (Nat.le_succ _)
   have HRW := (HO3.set hk12 (by decide) 0 (.slice A2' ((digs 10000 p).length + 1) c2')).rd
   have KW := KeepsOthers.trans (keeps_below hBW2) (KeepsOthers.setCell w2 ⟨w.heap.size + 1, 0, none⟩ (.slice A2' ((digs 10000 p).length + 1) c2'))
   have hsz : w.heap.size + 2 < (w2.setCell ⟨w.heap.size + 1, 0, none⟩ (.slice A2' ((digs 10000 p).length + 1) c2')).heap.size := by have := hBW2.size; simp; omega
   generalize w2.setCell ⟨w.heap.size + 1, 0, none⟩ (.slice A2' ((digs 10000 p).length + 1) c2') = WW at *
   clear hg2 hb1 hBW2 HO3 HO2 ho2 hc12 hf12 hk12 hca hc0 hc1 hf1 hbk hbk2 hbk0
   have hcW := hk1W.cell 0
   have hfW := hk1W.frozen 0
   have hc0W := hk0W.cell 0
   have hk1D := hk1W.drew
   have hk2D := hk2W.drew
   have hk0D := hk0W.drew
   have hBD := bZd hBw
   have R10 := R1.out.below hBD
   have HR0 := HRW.below (bZd (Below.refl _ _))
   have KO2 := KeepsOthers.trans KW (KeepsOthers.drew _)
   have HSZ : Aside0 (w.heap.size + 2 < WW.drew.heap.size) := ⟨hsz⟩
   gi_region_with (first | (refine ⟨trivial, ?_⟩; gi_at_call 166; refine (CallsIn.inRound l (callsIn_wide.2 (BY _ R10))).mono ?_; rintro e w3 ⟨v3, rfl, hv3, hb3, hw3⟩; have HB3 := bZs hBD hb3; have hk13 := hk1D.below hb3; have hc13 := hk13.cell 0; have hf13 := hk13.frozen 0; have HR3 := HR0.below hb3) | (refine ⟨trivial, ?_⟩; gi_at_call 112; refine (CallsIn.inRound l (callsIn_wide.2 (PL _ _ _ HR3 hv3))).mono ?_; rintro e w4 ⟨v4, rfl, hv4, hb4, hw4⟩; have hk14 := hk13.below hb4; have hc14 := hk14.cell 0; have hf14 := hk14.frozen 0; have HV4 := Aside0.mk hv4; obtain ⟨A4, c4, rfl, -, -⟩ := hv4))
   all_goals (
    gi_wp2
    refine ⟨(KeepsOthers.trans KO2 (KeepsOthers.trans (keeps_below (bZs hb3 hb4)) (KeepsOthers.setCell _ _ _))).from _, .slice A4 (digs 10000 q).length c4, ⟨⟨bZe (bZs HB3 hb4) (Nat.le_succ _), ((hk2D.below hb3).below hb4).far (by simp) _, ((hk0D.below hb3).below hb4).far (by simp) _, hk14.set 0 _⟩, ?_⟩, NE.out _ (fun k hk => by have h1 := hw4 k hk; have h2 := hb3.size; have h3 := HSZ.out; omega)⟩
    rw [HQ.out]
    exact HV4.out.set (NE.out _ (fun k hk => by have h1 := hw4 k hk; have h2 := hb3.size; have h3 := HSZ.out; omega)) 0 _)
 case done =>
  rintro D W hD ⟨v, ⟨⟨hB, hk2, hk0, hk1⟩, hr⟩, hne⟩ hK
  rw [Nat.pow_zero, Nat.div_one] at hr
  have HR := Aside0.mk hr
  obtain ⟨A3, c3, rfl, -, -⟩ := hr
  have c1 := hk1.cell 0
  gi_wp2
  refine ⟨by simp, .inl ⟨_, _, rfl, run_takeDeferred hK, ?_⟩⟩
  exact ⟨_, results_tmp rfl _ _ _, .slice A3 (digs 10000 (a * b)).length c3, rfl, HR.out.done hK, below_done hB (by simp at hD; omega) hK⟩
 case stop =>
  rintro D c W hD h _
  exact h.elim
theorem int_times (u v : Value) (a b : Nat) (w : World) (h1 : Rd w u (digs 10000 a)) (h2 : Rd w v (digs 10000 b)) (hl1 : (digs 10000 a).length ≤ 100) (hl2 : (digs 10000 b).length ≤ 100) :
  Calls Tryz.prog 209 #[u, v] w fun e w' => ∃ v', e = .returned v' ∧ Rd w' v' (digs 10000 (a * b)) ∧ Below w.heap.size w w' :=
 callsIn_wide.1 (times_in u v a b w h1 h2 hl1 hl2)
end Go.Proofs.YtociicfjhgfgpaaGreatDoor
namespace Go.Proofs.YtociicfjhgfgpaaGreatDoor
open Go.RowKit Go.Shelf Go.Proofs.YtociicfjhgfgpaaGreatDoorW.PrintWords
theorem sort_Search (n g : Nat) (lb : Array Value) (p : Nat → Bool) (d : Nat) (w : World) (hn : n ≤ 1000000000) (hdn : d ≤ n) (hp0 : ∀ i, i < d → p i = false) (hp1 : ∀ i, d ≤ i → i < n → p i = true)
  (eg : ∀ args w, (callFunc g args).run Tryz.prog w = .ok (.enter g args) w)
  (hf : ∀ (W : World) (i : Nat), Below w.heap.size w W → i < n → Calls Tryz.prog g (#[.int .i64 i] ++ lb) W fun e w' => e = .returned (.bool (p i)) ∧ Below W.heap.size W w') :
  Calls Tryz.prog 168 #[.int .i64 n, .func (.func g) #[] lb] w fun e w' => e = .returned (.int .i64 d) ∧ Below w.heap.size w w' := by
 have HF := Aside0.mk hf
 have H0 := Aside0.mk hp0
 have H1 := Aside0.mk hp1
 clear hf hp0 hp1
 go_enter Tryz.func168, Tryz.ntmps168
 go_wp2
 go_loopg [5, 6] n (fun k v5 v6 w' => ∃ lo hi : Nat, v5 = .int .i64 lo ∧ v6 = .int .i64 hi ∧ lo ≤ d ∧ d ≤ hi ∧ hi ≤ n ∧ hi - lo ≤ k ∧ Below w.heap.size w w')
 case atStart => exact ⟨0, n, rfl, rfl, Nat.zero_le _, hdn, Nat.le_refl _, by omega, Below.refl _ _⟩
 obtain ⟨lo, hi, rfl, rfl, h1, h2, h3, h4, HB⟩ := hrel
 by_cases hlt : lo < hi
 ·have hc := HF.out wr ((lo + hi) / 2) HB (by omega)
  rw [show (((lo + hi) / 2 : Nat) : Int) = ((lo : Int) + (hi : Int)) / 2 by omega] at hc
  cases hp : p ((lo + hi) / 2) with
  | false =>
   rw [hp] at hc
   have HP : Aside0 ((lo + hi) / 2 < d) := ⟨by
    rcases Nat.lt_or_ge ((lo + hi) / 2) d with q | q
    ·exact q
    ·rw [H1.out _ q (by omega)] at hp; cases hp⟩
   clear hp
   go_wp2_with (go_at_fn g; refine hc.mono ?_; clear hc; rintro e w2 ⟨rfl, hb2⟩)
   go_roundg (hi - ((lo + hi) / 2 + 1))
   case measure => omega
   case rel => exact ⟨(lo + hi) / 2 + 1, hi, by go_num, rfl, HP.out, h2, h3, Nat.le_refl _, bZs HB hb2⟩
  | true =>
   rw [hp] at hc
   have HP : Aside0 (d ≤ (lo + hi) / 2) := ⟨by
    rcases Nat.lt_or_ge ((lo + hi) / 2) d with q | q
    ·rw [H0.out _ q] at hp; cases hp
    ·exact q⟩
   clear hp
   go_wp2_with (go_at_fn g; refine hc.mono ?_; clear hc; rintro e w2 ⟨rfl, hb2⟩)
   go_roundg ((lo + hi) / 2 - lo)
   case measure => omega
   case rel => exact ⟨lo, (lo + hi) / 2, rfl, by go_num, h1, HP.out, by omega, Nat.le_refl _, bZs HB hb2⟩
 ·obtain rfl : lo = d := by omega
  go_wp2
  go_ret
  exact ⟨rfl, HB⟩
theorem cmp_pos {a b : Nat} : decide (cmpN a b > 0) = decide (b < a) := by
 unfold cmpN
 by_cases h : a < b
 ·rw [if_pos h, decide_eq_false (by omega), decide_eq_false (by omega)]
 ·rw [if_neg h]
  by_cases h2 : a = b
  ·rw [if_pos h2, decide_eq_false (by omega), decide_eq_false (by omega)]
  ·rw [if_neg h2, decide_eq_true (by omega), decide_eq_true (by omega)]
theorem int_over1 (A A2 : Option Addr) (c c2 la lr : Nat) (b r i b1 b2 : Nat) (w : World) (h1 : Blk w b1 #[.func (.func 166) #[.slice A la c] #[]] 220) (h2 : Blk w b2 #[.slice A2 lr c2] 166) (r1 : Rd w (.slice A la c) (digs 10000 b)) (r2 : Rd w (.slice A2 lr c2) (digs 10000 r)) (hb : (digs 10000 b).length ≤ 200) (hr : (digs 10000 r).length ≤ 1000) (hi : i < 9999) :
  Calls Tryz.prog 167 #[.int .i64 i, .pointer (some ⟨b1, 0, none⟩), .pointer (some ⟨b2, 0, none⟩)] w fun e w' => e = .returned (.bool (decide (r < b * (i + 1)))) ∧ Below w.heap.size w w' := by
 have BY := fun W h => int_by (.slice A la c) b (i + 1) W h (by omega) (by omega)
 rw [show ((i + 1 : Nat) : Int) = (i : Int) + 1 by omega] at BY
 have hl : (digs 10000 (b * (i + 1))).length ≤ 1000000 := Nat.le_trans (digs_len_le (k := 201) (by decide) (by
  have h9 : b < 10000 ^ 200 := Nat.lt_of_lt_of_le (digs_big (by decide) b) (Nat.pow_le_pow_right (by decide) hb)
  rw [Nat.pow_succ]
  exact Nat.mul_lt_mul_of_lt_of_le h9 (by omega) (by decide))) (by decide)
 have CM := fun u W h h' => int_compare u (.slice A2 lr c2) (b * (i + 1)) r W h h' hl (by omega)
 have HC : Aside0 (decide (cmpN (b * (i + 1)) r > 0) = decide (r < b * (i + 1))) := ⟨cmp_pos⟩
 have c1 := h1.cell 0
 have cc2 := h2.cell 0
 have f1 := h1.frozen 0
 have f2 := h2.frozen 0
 have hwr : IntKind.i64.wrap ((i : Int) + 1) = (i : Int) + 1 := by rw [IntKind.wrap_i64]; omega
 rw [← hwr] at BY
 clear hwr
 have R10 := r1.below (bZd (Below.refl _ _))
 have R20 := r2.below (bZd (Below.refl _ _))
 have D1 := h1.drew
 have D2 := h2.drew
 rw [← HC.out]
 clear HC
 generalize cmpN (b * (i + 1)) r = z at *
 go_enter Tryz.func167, Tryz.ntmps167
 go_wp2
 go_region_with (first | (go_at_call 166; refine (BY _ R10).mono ?_; rintro e w3 ⟨v3, rfl, hv3, hb3, _⟩; have hk3 := D2.below hb3; have hc3 := hk3.cell 0; have R23 := R20.below hb3) | (go_at_call 116; refine (CM _ _ hv3 R23).mono ?_; rintro e w4 ⟨rfl, hb4⟩))
 all_goals (
  go_wp2
  go_ret
  exact ⟨rfl, bZs (bZs (bZd (Below.refl _ _)) hb3) hb4⟩)
end Go.Proofs.YtociicfjhgfgpaaGreatDoor

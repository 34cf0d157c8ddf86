/- integer: trimmed, at, fold: the walks. integer: plus, minus, by: the walks. -/
import Derived.Test.YtociicfjhgfgpaaGreatDoorR03
import Derived.Test.YtociicfjhgfgpaaGreatDoorR02
import Derived.Shelf.Abstract
import Derived.Deep.QuietTactic
import Derived.BigQuiet
set_option linter.unusedVariables false
set_option linter.unusedSimpArgs false
set_option maxHeartbeats 4000000
set_option maxRecDepth 100000
namespace Go.Proofs.YtociicfjhgfgpaaGreatDoor
open Go.RowKit Go.Proofs.YtociicfjhgfgpaaGreatDoorW.PrintWords
theorem int_trimmed (v : Value) (xs : List Int) (w : World) (h : Rd w v xs) :
  Calls Tryz.prog 165 #[v] w fun e w' => ∃ v', e = .returned v' ∧ Rd w' v' (trimL xs) ∧ w = w' ∧ v'.ownBlock = v.ownBlock := by
 obtain ⟨A, c, rfl, hc, hr⟩ := h
 go_enter Tryz.func165, Tryz.ntmps165
 go_wp2
 go_loopg [0] xs.length (fun k v0 w' => v0 = .slice A k c ∧ k ≤ xs.length ∧ trimN xs k = trimN xs xs.length ∧ w' = w)
 case atStart => exact ⟨rfl, Nat.le_refl _, rfl, rfl⟩
 obtain ⟨rfl, hk, ht, rfl⟩ := hrel
 cases gk with
 | zero =>
  go_wp2
  go_ret
  exact ⟨_, rfl, by unfold trimL; rw [← ht]; exact rd_of_take hr hc hk, rfl, by cases A <;> rfl⟩
 | succ m =>
  have hm : (m : Int) < (xs.length : Int) := by omega
  obtain ⟨ad, rfl, hx⟩ := Kd.at_int hr (m : Int) (by omega) hm
  rw [Int.toNat_natCast] at hx
  have hw : wrap64 (m : Int) = (m : Int) := by have := hr.2.1; unfold wrap64; omega
  have T := Aside0.mk ht
  clear ht
  by_cases hz : rd xs (m : Int) = 0
  ·rw [hz] at hx
   go_wp2
   go_roundg m
   case measure => omega
   case rel => exact ⟨rfl, by omega, by rw [← T.out]; conv => rhs; unfold trimN; rw [if_pos hz], rfl⟩
  ·have hb : (rd xs (m : Int) == 0) = false := beq_eq_false_iff_ne.2 hz
   go_wp2
   go_ret
   exact ⟨_, rfl, by unfold trimL; rw [← T.out]; unfold trimN; rw [if_neg hz]; exact rd_of_take hr hc hk, rfl, rfl⟩
theorem rd_far (xs : List Int) (i : Nat) (h : xs.length ≤ i) : rd xs (i : Int) = 0 := by
 unfold rd
 rw [Int.toNat_natCast, List.getD_eq_getElem?_getD, List.getElem?_eq_none h]
 rfl
theorem int_at (v : Value) (xs : List Int) (i : Nat) (w : World) (h : Rd w v xs) :
  Calls Tryz.prog 171 #[v, .int .i64 i] w fun e w' => e = .returned (.int .i64 (rd xs (i : Int))) ∧ w = w' := by
 obtain ⟨A, c, rfl, hc, hr⟩ := h
 by_cases hi : (i : Int) < (xs.length : Int)
 ·obtain ⟨ad, rfl, hx⟩ := Kd.at_int hr (i : Int) (by omega) hi
  rw [Int.toNat_natCast] at hx
  go_enter Tryz.func171, Tryz.ntmps171
  go_wp2
  go_ret
  exact ⟨rfl, rfl⟩
 ·rw [rd_far xs i (by omega)]
  go_enter Tryz.func171, Tryz.ntmps171
  go_wp2
  go_ret
  exact ⟨rfl, rfl⟩
def sumD (d : Nat → Int) : Nat → Int
 | 0 => 0
 | i + 1 => sumD d i + d i * 10000 ^ i
theorem sumD_far {d : Nat → Int} {n : Nat} (h : ∀ i, n ≤ i → d i = 0) : ∀ i, n ≤ i → sumD d i = sumD d n := by
 intro i hi
 obtain ⟨k, rfl⟩ := Nat.le.dest hi
 induction k with
 | zero => rfl
 | succ k ih =>
  show sumD d (n + k) + d (n + k) * 10000 ^ (n + k) = _
  rw [h _ (by omega), ih (by omega)]
  simp
theorem own_room (W : World) (base m : Nat) (hb : base ≤ W.heap.size) (hm : m ≤ 1000000) :
  Own (W.alloc (.cells (madeCells #[.int .i64 0] m) 3)) base (.slice (some ⟨W.heap.size, 0, none⟩) 0 m) [] := by
 have h1 := own_made W base 3 .i64 m hb (by omega)
 have h2 : Own (W.alloc (.cells (madeCells #[.int .i64 0] m) 3)) base (.slice (some ⟨W.heap.size, 0, none⟩) m m) (List.replicate m 0) := own_of_cells (by rw [List.length_replicate]; exact h1)
 have h3 := Kd.R_take h2 (Nat.zero_le _)
 rw [List.take_zero] at h3
 exact h3
theorem mk_room (m : Nat) (hm : m ≤ 1000000) (W : World) : (Instr.makeSlice 166 (.int .i64 0) (.int .i64 (m : Int))).run Tryz.prog W = .ok (.slice (some ⟨W.heap.size, 0, none⟩) 0 m) (W.alloc (.cells (madeCells #[.int .i64 0] m) 3)) := by
 obtain ⟨i0, hi, hzz⟩ := Option.map_eq_some_iff.1 info3
 simp only [Prod.mk.injEq] at hzz
 obtain ⟨hz0, hz1, hz2⟩ := hzz
 have hr := run_make (P := Tryz.prog) W 166 3 i0 (.int .i64 0) Tryz.underlying166 hi hz0 .i64 .i64 0 (m : Int) (by omega) (by omega)
  (by rw [hz2]; omega) (by omega)
 simp only [Int.toNat_natCast] at hr
 rw [hz1, Nat.mul_one] at hr
 exact hr
theorem fold_val {xs : List Int} {c c' r x : Int} {i : Nat} {d : Nat → Int} (hl : xs.length = i) (hv : (val 10000 xs : Int) + c * 10000 ^ i = sumD d i) (hx : d i = x) (hs : x + c = r + 10000 * c') (h0 : 0 ≤ r) :
  (val 10000 (xs ++ [r]) : Int) + c' * 10000 ^ (i + 1) = sumD d (i + 1) := by
 rw [val_snoc, hl]
 show _ = sumD d i + d i * 10000 ^ i
 rw [hx, ← hv]
 have e : ((val 10000 xs + 10000 ^ i * r.toNat : Nat) : Int) = (val 10000 xs : Int) + 10000 ^ i * r := by
  rw [Int.natCast_add, Int.natCast_mul, Int.toNat_of_nonneg h0]
  simp
 rw [e]
 have h1 : (10000 : Int) ^ (i + 1) = 10000 ^ i * 10000 := Int.pow_succ _ _
 rw [h1]
 have h2 : 10000 ^ i * (x + c) = 10000 ^ i * (r + 10000 * c') := by rw [hs]
 grind
theorem dig_snoc {b : Nat} {xs : List Int} {r : Int} (h : Dig b xs) (h0 : 0 ≤ r) (h1 : r < b) : Dig b (xs ++ [r]) := by
 intro d hd
 rcases List.mem_append.1 hd with hd | hd
 ·exact h d hd
 ·rw [List.mem_singleton.1 hd]
  exact ⟨h0, h1⟩
theorem fold_nonneg {xs : List Int} {c : Int} {i : Nat} {d : Nat → Int} (hl : xs.length = i) (hD : Dig 10000 xs) (hv : (val 10000 xs : Int) + c * 10000 ^ i = sumD d i) (hp : 0 ≤ sumD d i) (hc : -1 ≤ c) : 0 ≤ c := by
 by_cases h : c < 0
 ·exfalso
  obtain rfl : c = -1 := by omega
  have h1 := val_lt (b := 10000) (by decide) xs hD
  rw [hl] at h1
  have h2 : ((10000 ^ i : Nat) : Int) = (10000 : Int) ^ i := by simp
  omega
 ·omega
structure FoldI (n : Nat) (d : Nat → Int) (k i : Nat) (c : Int) (xs : List Int) : Prop where
 meas : k = (n - i) * 30000 + (c + 1).toNat
 room : i ≤ n ∨ (0 ≤ c ∧ c + i ≤ n + 20000)
 len : xs.length = i
 dig : Dig 10000 xs
 sum : (val 10000 xs : Int) + c * 10000 ^ i = sumD d i
theorem int_fold (n g : Nat) (lb : Array Value) (d : Nat → Int) (w : World) (hn : n ≤ 10000) (hd : ∀ i, -9999 ≤ d i ∧ d i ≤ 100000000) (hz : ∀ i, n ≤ i → d i = 0) (hpos : 0 ≤ sumD d n)
  (eg : ∀ args w, (callFunc g args).run Tryz.prog w = .ok (.enter g args) w)
  (hf : ∀ (W : World) (i : Nat), Below w.heap.size w W → Calls Tryz.prog g (#[.int .i64 i] ++ lb) W fun e w' => e = .returned (.int .i64 (d i)) ∧ Below W.heap.size W w') :
  Calls Tryz.prog 169 #[.int .i64 n, .int .i64 0, .func (.func g) #[] lb] w fun e w' => ∃ v, e = .returned v ∧ ∃ xs, Own w' w.heap.size v xs ∧ xs.length ≤ n + 20000 ∧ Dig 10000 xs ∧ (val 10000 xs : Int) = sumD d n ∧ Below w.heap.size w w' := by
 have HF := Aside0.mk hf
 have HD := Aside0.mk hd
 have HZ := Aside0.mk hz
 have HP := Aside0.mk hpos
 have hmk := mk_room (n + 1) (by omega)
 rw [show ((n + 1 : Nat) : Int) = (n : Int) + 1 by omega] at hmk
 have hw1 : wrap64 ((n : Int) + 1) = (n : Int) + 1 := by unfold wrap64; omega
 clear hf hd hz hpos
 go_enter Tryz.func169, Tryz.ntmps169
 go_wp2
 go_loopg [1, 7, 8] (n * 30000 + 1) (fun k v1 v7 v8 w' => ∃ (i : Nat) (c : Int) (xs : List Int), v8 = .int .i64 i ∧ v1 = .int .i64 c ∧ -1 ≤ c ∧ c ≤ 20000 ∧ Own w' w.heap.size v7 xs ∧ Aside0 (FoldI n d k i c xs) ∧ Below w.heap.size w w')
 case atStart => exact ⟨0, 0, [], rfl, rfl, by omega, by omega, own_room w _ _ (Nat.le_refl _) (by omega), ⟨⟨by simp, .inl (by omega), rfl, (fun d hd => absurd hd List.not_mem_nil), rfl⟩⟩, bZa (Below.refl _ _) _⟩
 obtain ⟨i, c, xs, rfl, rfl, hc0, hc1, HO, HI, HB⟩ := hrel
 clear hmk hw1
 by_cases hend : n ≤ i ∧ c = 0
 ·obtain ⟨h1, rfl⟩ := hend
  have h2 : ¬ (i : Int) < (n : Int) := by omega
  have HR : Aside0 (xs.length ≤ n + 20000 ∧ (val 10000 xs : Int) = sumD d n) := ⟨by rw [HI.out.len]; have := HI.out.room; omega, by have := HI.out.sum; rw [sumD_far HZ.out i h1] at this; omega⟩
  go_wp2
  go_ret
  exact ⟨_, rfl, xs, HO, HR.out.1, HI.out.dig, HR.out.2, HB⟩
 ·obtain ⟨x, hx⟩ : ∃ x, d i = x := ⟨_, rfl⟩
  obtain ⟨hx0, hx1⟩ := HD.out i
  rw [hx] at hx0 hx1
  have hC := HF.out wr i HB
  rw [hx] at hC
  have HX := Aside0.mk hx
  have hip : i ≤ n + 20000 := by have := HI.out.room; omega
  have HN : Aside0 (xs.length < 17592186044415) := ⟨by rw [HI.out.len]; omega⟩
  obtain ⟨s, hs⟩ : ∃ s, x + c = s := ⟨_, rfl⟩
  have hcn : n ≤ i → 0 < c ∧ x = 0 := by
   intro h
   have h1 := fold_nonneg HI.out.len HI.out.dig HI.out.sum (by rw [sumD_far HZ.out i h]; exact HP.out) hc0
   have h2 := HZ.out i h
   omega
  have HCN := Aside0.mk hcn
  clear hcn hx
  obtain ⟨c', hc'⟩ : ∃ c', s / 10000 = c' := ⟨_, rfl⟩
  obtain ⟨r, hr⟩ : ∃ r, s % 10000 = r := ⟨_, rfl⟩
  have hr0 : 0 ≤ r := by omega
  have hr1 : r < 10000 := by omega
  have hsr : s = r + 10000 * c' := by omega
  have HI2 : Aside0 (FoldI n d ((n - (i + 1)) * 30000 + (c' + 1).toNat) (i + 1) c' (xs ++ [r])) := ⟨⟨rfl, by have := HI.out.room; have := HCN.out; omega, by rw [List.length_append, HI.out.len]; rfl, dig_snoc HI.out.dig hr0 hr1, fold_val HI.out.len HI.out.sum HX.out (by omega) hr0⟩⟩
  have HM : Aside0 ((n - (i + 1)) * 30000 + (c' + 1).toNat < gk) := ⟨by have := HI.out.meas; have := HCN.out; omega⟩
  have hcc0 : -1 ≤ c' := by omega
  have hcc1 : c' ≤ 20000 := by omega
  have HSR := Aside0.mk hsr
  have HC' := Aside0.mk hc'
  have HRR := Aside0.mk hr
  have hs1 : -10000 ≤ s := by omega
  have hs2 : s ≤ 100020000 := by omega
  clear hsr hc' hr
  by_cases hin : (i : Int) < (n : Int)
  ·by_cases hneg : s < 0
   ·obtain rfl : c' = -1 := by have := HSR.out; omega
    obtain rfl : r = s + 10000 := by have := HSR.out; omega
    go_wp2_with (first | (go_at_fn g; refine hC.mono ?_; clear hC; rintro e w2 ⟨rfl, hb2⟩) | (at_builtin; refine app1 (w0 := w) w.heap.size (.tmp 37) (.tmp 39) 166 rfl rfl Tryz.underlying166 _ _ _ rfl rfl (HO.below hb2) (bZs HB hb2) (bZs HB hb2).size HN.out ?_; intro v3 w3 ho3 hb3 hg3))
    clear hg3
    go_roundg ((n - (i + 1)) * 30000 + ((-1) + 1).toNat)
    case measure => exact HM.out
    case rel => exact ⟨i + 1, (-1), _, by go_num, rfl, by omega, by omega, ho3, HI2, hb3⟩
   ·by_cases hbig : s ≥ 10000
    ·have e1 : s.tdiv 10000 = c' := by rw [Int.tdiv_eq_ediv_of_nonneg (by omega)]; exact HC'.out
     have e2 : s.tmod 10000 = r := by rw [Int.tmod_eq_emod_of_nonneg (by omega)]; exact HRR.out
     go_wp2_with (first | (go_at_fn g; refine hC.mono ?_; clear hC; rintro e w2 ⟨rfl, hb2⟩) | (at_builtin; refine app1 (w0 := w) w.heap.size (.tmp 37) (.tmp 39) 166 rfl rfl Tryz.underlying166 _ _ _ rfl rfl (HO.below hb2) (bZs HB hb2) (bZs HB hb2).size HN.out ?_; intro v3 w3 ho3 hb3 hg3))
     clear hg3
     go_roundg ((n - (i + 1)) * 30000 + (c' + 1).toNat)
     case measure => exact HM.out
     case rel => exact ⟨i + 1, c', _, by go_num, by go_num, by omega, by omega, ho3, HI2, hb3⟩
    ·obtain rfl : c' = 0 := by have := HSR.out; omega
     obtain rfl : r = s := by have := HSR.out; omega
     go_wp2_with (first | (go_at_fn g; refine hC.mono ?_; clear hC; rintro e w2 ⟨rfl, hb2⟩) | (at_builtin; refine app1 (w0 := w) w.heap.size (.tmp 37) (.tmp 39) 166 rfl rfl Tryz.underlying166 _ _ _ rfl rfl (HO.below hb2) (bZs HB hb2) (bZs HB hb2).size HN.out ?_; intro v3 w3 ho3 hb3 hg3))
     clear hg3
     go_roundg ((n - (i + 1)) * 30000 + ((0 : Int) + 1).toNat)
     case measure => exact HM.out
     case rel => exact ⟨i + 1, 0, _, by go_num, rfl, by omega, by omega, ho3, HI2, hb3⟩
  ·have hne : (c != 0) = true := bne_iff_ne.2 (by omega)
   by_cases hneg : s < 0
   ·obtain rfl : c' = -1 := by have := HSR.out; omega
    obtain rfl : r = s + 10000 := by have := HSR.out; omega
    go_wp2_with (first | (go_at_fn g; refine hC.mono ?_; clear hC; rintro e w2 ⟨rfl, hb2⟩) | (at_builtin; refine app1 (w0 := w) w.heap.size (.tmp 37) (.tmp 39) 166 rfl rfl Tryz.underlying166 _ _ _ rfl rfl (HO.below hb2) (bZs HB hb2) (bZs HB hb2).size HN.out ?_; intro v3 w3 ho3 hb3 hg3))
    clear hg3
    go_roundg ((n - (i + 1)) * 30000 + ((-1) + 1).toNat)
    case measure => exact HM.out
    case rel => exact ⟨i + 1, (-1), _, by go_num, rfl, by omega, by omega, ho3, HI2, hb3⟩
   ·by_cases hbig : s ≥ 10000
    ·have e1 : s.tdiv 10000 = c' := by rw [Int.tdiv_eq_ediv_of_nonneg (by omega)]; exact HC'.out
     have e2 : s.tmod 10000 = r := by rw [Int.tmod_eq_emod_of_nonneg (by omega)]; exact HRR.out
     go_wp2_with (first | (go_at_fn g; refine hC.mono ?_; clear hC; rintro e w2 ⟨rfl, hb2⟩) | (at_builtin; refine app1 (w0 := w) w.heap.size (.tmp 37) (.tmp 39) 166 rfl rfl Tryz.underlying166 _ _ _ rfl rfl (HO.below hb2) (bZs HB hb2) (bZs HB hb2).size HN.out ?_; intro v3 w3 ho3 hb3 hg3))
     clear hg3
     go_roundg ((n - (i + 1)) * 30000 + (c' + 1).toNat)
     case measure => exact HM.out
     case rel => exact ⟨i + 1, c', _, by go_num, by go_num, by omega, by omega, ho3, HI2, hb3⟩
    ·obtain rfl : c' = 0 := by have := HSR.out; omega
     obtain rfl : r = s := by have := HSR.out; omega
     go_wp2_with (first | (go_at_fn g; refine hC.mono ?_; clear hC; rintro e w2 ⟨rfl, hb2⟩) | (at_builtin; refine app1 (w0 := w) w.heap.size (.tmp 37) (.tmp 39) 166 rfl rfl Tryz.underlying166 _ _ _ rfl rfl (HO.below hb2) (bZs HB hb2) (bZs HB hb2).size HN.out ?_; intro v3 w3 ho3 hb3 hg3))
     clear hg3
     go_roundg ((n - (i + 1)) * 30000 + ((0 : Int) + 1).toNat)
     case measure => exact HM.out
     case rel => exact ⟨i + 1, 0, _, by go_num, rfl, by omega, by omega, ho3, HI2, hb3⟩
theorem drewN_below (w : World) (n : Nat) : Below w.heap.size w (w.drewN n) := ⟨rfl, rfl, rfl, Nat.le_refl _, fun _ _ => rfl⟩
theorem int_plus1 (u v : Value) (xs ys : List Int) (b1 b2 : Nat) (i : Nat) (w : World) (h1 : Blk w b1 #[u] 166) (h2 : Blk w b2 #[v] 166) (r1 : Rd w u xs) (r2 : Rd w v ys)
  (hx : 0 ≤ rd xs (i : Int) ∧ rd xs (i : Int) ≤ 9999) (hy : 0 ≤ rd ys (i : Int) ∧ rd ys (i : Int) ≤ 9999) :
  Calls Tryz.prog 170 #[.int .i64 i, .pointer (some ⟨b1, 0, none⟩), .pointer (some ⟨b2, 0, none⟩)] w fun e w' => e = .returned (.int .i64 (rd xs (i : Int) + rd ys (i : Int))) ∧ Below w.heap.size w w' := by
 have A1 : ∀ n, Calls Tryz.prog 171 #[u, .int .i64 i] (w.drewN n) fun e w' => e = .returned (.int .i64 (rd xs (i : Int))) ∧ w' = w.drewN n := fun n => (int_at u xs i (w.drewN n) (r1.below (drewN_below w n))).mono fun e w' h => ⟨h.1, h.2.symm⟩
 have A2 : ∀ n, Calls Tryz.prog 171 #[v, .int .i64 i] (w.drewN n) fun e w' => e = .returned (.int .i64 (rd ys (i : Int))) ∧ w' = w.drewN n := fun n => (int_at v ys i (w.drewN n) (r2.below (drewN_below w n))).mono fun e w' h => ⟨h.1, h.2.symm⟩
 have c1 := h1.cell 0
 have c2 := h2.cell 0
 have f1 := h1.frozen 0
 have f2 := h2.frozen 0
 obtain ⟨hx0, hx1⟩ := hx
 obtain ⟨hy0, hy1⟩ := hy
 generalize rd xs (i : Int) = x at *
 generalize rd ys (i : Int) = y at *
 go_enter Tryz.func170, Tryz.ntmps170
 go_wp2
 go_quiet (first | (go_at_call_of 171 u; exact Calls.quiet_of_same (A1 _)) | (go_at_call_of 171 v; exact Calls.quiet_of_same (A2 _)))
 go_wp2
 go_ret
 exact ⟨rfl, drewN_below w _⟩
theorem int_minus1 (u v : Value) (xs ys : List Int) (b1 b2 : Nat) (i : Nat) (w : World) (h1 : Blk w b1 #[u] 166) (h2 : Blk w b2 #[v] 166) (r1 : Rd w u xs) (r2 : Rd w v ys)
  (hx : 0 ≤ rd xs (i : Int) ∧ rd xs (i : Int) ≤ 9999) (hy : 0 ≤ rd ys (i : Int) ∧ rd ys (i : Int) ≤ 9999) :
  Calls Tryz.prog 172 #[.int .i64 i, .pointer (some ⟨b1, 0, none⟩), .pointer (some ⟨b2, 0, none⟩)] w fun e w' => e = .returned (.int .i64 (rd xs (i : Int) - rd ys (i : Int))) ∧ Below w.heap.size w w' := by
 have A1 : ∀ n, Calls Tryz.prog 171 #[u, .int .i64 i] (w.drewN n) fun e w' => e = .returned (.int .i64 (rd xs (i : Int))) ∧ w' = w.drewN n := fun n => (int_at u xs i (w.drewN n) (r1.below (drewN_below w n))).mono fun e w' h => ⟨h.1, h.2.symm⟩
 have A2 : ∀ n, Calls Tryz.prog 171 #[v, .int .i64 i] (w.drewN n) fun e w' => e = .returned (.int .i64 (rd ys (i : Int))) ∧ w' = w.drewN n := fun n => (int_at v ys i (w.drewN n) (r2.below (drewN_below w n))).mono fun e w' h => ⟨h.1, h.2.symm⟩
 have c1 := h1.cell 0
 have c2 := h2.cell 0
 have f1 := h1.frozen 0
 have f2 := h2.frozen 0
 obtain ⟨hx0, hx1⟩ := hx
 obtain ⟨hy0, hy1⟩ := hy
 generalize rd xs (i : Int) = x at *
 generalize rd ys (i : Int) = y at *
 go_enter Tryz.func172, Tryz.ntmps172
 go_wp2
 go_quiet (first | (go_at_call_of 171 u; exact Calls.quiet_of_same (A1 _)) | (go_at_call_of 171 v; exact Calls.quiet_of_same (A2 _)))
 go_wp2
 go_ret
 exact ⟨rfl, drewN_below w _⟩
theorem int_by1 (u : Value) (xs : List Int) (k : Nat) (b1 b2 : Nat) (i : Nat) (w : World) (h1 : Blk w b1 #[u] 166) (h2 : Blk w b2 #[.int .i64 k] 3) (r1 : Rd w u xs) (hx : 0 ≤ rd xs (i : Int) ∧ rd xs (i : Int) ≤ 9999) (hk : k ≤ 9999) :
  Calls Tryz.prog 201 #[.int .i64 i, .pointer (some ⟨b1, 0, none⟩), .pointer (some ⟨b2, 0, none⟩)] w fun e w' => e = .returned (.int .i64 (rd xs (i : Int) * (k : Int))) ∧ Below w.heap.size w w' := by
 have A1 : ∀ n, Calls Tryz.prog 171 #[u, .int .i64 i] (w.drewN n) fun e w' => e = .returned (.int .i64 (rd xs (i : Int))) ∧ w' = w.drewN n := fun n => (int_at u xs i (w.drewN n) (r1.below (drewN_below w n))).mono fun e w' h => ⟨h.1, h.2.symm⟩
 have c1 := h1.cell 0
 have c2 := h2.cell 0
 have f1 := h1.frozen 0
 have f2 := h2.frozen 0
 obtain ⟨x, hxe⟩ : ∃ x : Nat, rd xs (i : Int) = (x : Int) := ⟨_, (Int.toNat_of_nonneg hx.1).symm⟩
 rw [hxe] at hx A1 ⊢
 have hx9 : x ≤ 9999 := by omega
 have hm : x * k ≤ 9999 * 9999 := Nat.mul_le_mul hx9 hk
 obtain ⟨p, hp⟩ : ∃ p, x * k = p := ⟨_, rfl⟩
 have hpi : (x : Int) * (k : Int) = (p : Int) := by rw [← hp]; push_cast; rfl
 rw [hp] at hm
 clear hp hxe hx
 rw [hpi]
 go_enter Tryz.func201, Tryz.ntmps201
 go_wp2
 go_quiet (first | (go_at_call_of 171 u; exact Calls.quiet_of_same (A1 _)) | fail)
 go_wp2
 go_ret
 exact ⟨rfl, drewN_below w _⟩
theorem rd_dig (a i : Nat) : 0 ≤ rd (digs 10000 a) (i : Int) ∧ rd (digs 10000 a) (i : Int) ≤ 9999 := by
 rw [digs_rd (by decide)]
 have := Nat.mod_lt (a / 10000 ^ i) (show 0 < 10000 by decide)
 omega
theorem sumD_digs (a n : Nat) : sumD (fun i => rd (digs 10000 a) (i : Int)) n = ((a % 10000 ^ n : Nat) : Int) := by
 induction n with
 | zero => simp [sumD, Nat.mod_one]
 | succ n ih =>
  show sumD _ n + rd (digs 10000 a) (n : Int) * 10000 ^ n = _
  rw [ih, digs_rd (by decide), mod_step]
  rw [Int.natCast_add, Int.natCast_mul, Int.mul_comm]
  simp
theorem sumD_all (a n : Nat) (h : (digs 10000 a).length ≤ n) : sumD (fun i => rd (digs 10000 a) (i : Int)) n = (a : Int) := by
 rw [sumD_digs, Nat.mod_eq_of_lt (Nat.lt_of_lt_of_le (digs_big (by decide) a) (Nat.pow_le_pow_right (by decide) h))]
theorem sumD_add (d e : Nat → Int) (n : Nat) : sumD (fun i => d i + e i) n = sumD d n + sumD e n := by
 induction n with
 | zero => rfl
 | succ n ih =>
  show sumD _ n + (d n + e n) * 10000 ^ n = (sumD d n + d n * 10000 ^ n) + (sumD e n + e n * 10000 ^ n)
  rw [ih, Int.add_mul]
  omega
theorem sumD_sub (d e : Nat → Int) (n : Nat) : sumD (fun i => d i - e i) n = sumD d n - sumD e n := by
 induction n with
 | zero => rfl
 | succ n ih =>
  show sumD _ n + (d n - e n) * 10000 ^ n = (sumD d n + d n * 10000 ^ n) - (sumD e n + e n * 10000 ^ n)
  rw [ih, Int.sub_mul]
  omega
theorem sumD_mul (d : Nat → Int) (k : Int) (n : Nat) : sumD (fun i => d i * k) n = sumD d n * k := by
 induction n with
 | zero => simp [sumD]
 | succ n ih =>
  show sumD _ n + (d n * k) * 10000 ^ n = (sumD d n + d n * 10000 ^ n) * k
  rw [ih]
  grind
theorem trim_of_val {xs : List Int} {X : Nat} (hD : Dig 10000 xs) (hv : (val 10000 xs : Int) = (X : Int)) : trimL xs = digs 10000 X := by
 rw [trimL_val (by decide) _ hD, Int.ofNat_inj.1 hv]
theorem int_plus (u v : Value) (a b : Nat) (w : World) (r1 : Rd w u (digs 10000 a)) (r2 : Rd w v (digs 10000 b)) (ha : (digs 10000 a).length ≤ 5000) (hb : (digs 10000 b).length ≤ 5000) :
  Calls Tryz.prog 112 #[u, v] w fun e w' => ∃ v', e = .returned v' ∧ Rd w' v' (digs 10000 (a + b)) ∧ Below w.heap.size w w' ∧ (∀ k, v'.ownBlock = some k → w.heap.size ≤ k) := by
 obtain ⟨W0, hW0⟩ : ∃ W0, (w.alloc (.cells #[u] 166)).alloc (.cells #[v] 166) = W0 := ⟨_, rfl⟩
 have hB0 : Below w.heap.size w W0 := by rw [← hW0]; exact bZa (bZa (Below.refl _ _) _) _
 have hk1 : Blk W0 w.heap.size #[u] 166 := by rw [← hW0]; exact (Blk.new w _ _).alloc _
 have hk2 : Blk W0 (w.heap.size + 1) #[v] 166 := by
  rw [← hW0]
  have := Blk.new (w.alloc (.cells #[u] 166)) #[v] 166
  rwa [World.size_alloc] at this
 have F : ∀ n, (digs 10000 a).length ≤ n → (digs 10000 b).length ≤ n → n ≤ 10000 → Calls Tryz.prog 169 #[.int .i64 (n : Int), .int .i64 0, .func (.func 170) #[] #[.pointer (some ⟨w.heap.size, 0, none⟩), .pointer (some ⟨w.heap.size + 1, 0, none⟩)]] W0 fun e w' => ∃ v, e = .returned v ∧ ∃ xs, Own w' W0.heap.size v xs ∧ xs.length ≤ n + 20000 ∧ Dig 10000 xs ∧ (val 10000 xs : Int) = ((a + b : Nat) : Int) ∧ Below W0.heap.size W0 w' := by
  intro n na nb n1
  have F := int_fold n 170 #[.pointer (some ⟨w.heap.size, 0, none⟩), .pointer (some ⟨w.heap.size + 1, 0, none⟩)] (fun i => rd (digs 10000 a) (i : Int) + rd (digs 10000 b) (i : Int)) W0 n1
   (fun i => by have := rd_dig a i; have := rd_dig b i; omega) (fun i hi => by rw [rd_far _ _ (by omega), rd_far (digs 10000 b) _ (by omega)]; rfl)
   (by rw [sumD_add, sumD_all _ _ (by omega), sumD_all _ _ (by omega)]; omega) (enters_of Tryz.func170 (by kernel_rfl) rfl)
   (fun W i hW => int_plus1 u v _ _ _ _ i W (hk1.below hW) (hk2.below hW) ((r1.below hB0).below hW) ((r2.below hB0).below hW) (rd_dig a i) (rd_dig b i))
  rw [sumD_add, sumD_all _ _ (by omega), sumD_all _ _ (by omega)] at F
  rw [Int.natCast_add]; exact F
 have c1 := hk1.cell 0
 have c2 := hk2.cell 0
 have f1 := hk1.frozen 0
 have f2 := hk2.frozen 0
 clear hk1 hk2
 obtain ⟨A, c, rfl, _, _⟩ := r1
 obtain ⟨A2, cc, rfl, _, _⟩ := r2
 by_cases hlt : (digs 10000 a).length < (digs 10000 b).length <;> (
  go_enter Tryz.func112, Tryz.ntmps112
  go_wp2_with (first | (go_at_call 169; refine (F _ (by omega) (by omega) (by omega)).mono ?_; clear F; rintro e w2 ⟨v2, rfl, xs, hO, hl, hD, hV, hb2⟩) | (go_at_call 165; refine (int_trimmed _ _ _ hO.rd).mono ?_; rintro e w3 ⟨v3, rfl, hv3, rfl, ho3⟩))
  go_ret
  exact ⟨_, rfl, by rw [trim_of_val hD hV] at hv3; exact hv3, bZs hB0 hb2, fun k hk => Nat.le_trans hB0.size (hO.base k (by rw [← ho3]; exact hk))⟩)
theorem int_minus (u v : Value) (a b : Nat) (w : World) (r1 : Rd w u (digs 10000 a)) (r2 : Rd w v (digs 10000 b)) (ha : (digs 10000 a).length ≤ 5000) (hba : b ≤ a) :
  Calls Tryz.prog 114 #[u, v] w fun e w' => ∃ v', e = .returned v' ∧ Rd w' v' (digs 10000 (a - b)) ∧ Below w.heap.size w w' ∧ (∀ k, v'.ownBlock = some k → w.heap.size ≤ k) := by
 have hbl : (digs 10000 b).length ≤ (digs 10000 a).length := digs_len_le (by decide) (Nat.lt_of_le_of_lt hba (digs_big (by decide) a))
 obtain ⟨W0, hW0⟩ : ∃ W0, (w.alloc (.cells #[u] 166)).alloc (.cells #[v] 166) = W0 := ⟨_, rfl⟩
 have hB0 : Below w.heap.size w W0 := by rw [← hW0]; exact bZa (bZa (Below.refl _ _) _) _
 have hk1 : Blk W0 w.heap.size #[u] 166 := by rw [← hW0]; exact (Blk.new w _ _).alloc _
 have hk2 : Blk W0 (w.heap.size + 1) #[v] 166 := by
  rw [← hW0]
  have := Blk.new (w.alloc (.cells #[u] 166)) #[v] 166
  rwa [World.size_alloc] at this
 have F : ∀ n, (digs 10000 a).length ≤ n → n ≤ 10000 → Calls Tryz.prog 169 #[.int .i64 (n : Int), .int .i64 0, .func (.func 172) #[] #[.pointer (some ⟨w.heap.size, 0, none⟩), .pointer (some ⟨w.heap.size + 1, 0, none⟩)]] W0 fun e w' => ∃ v, e = .returned v ∧ ∃ xs, Own w' W0.heap.size v xs ∧ xs.length ≤ n + 20000 ∧ Dig 10000 xs ∧ (val 10000 xs : Int) = ((a - b : Nat) : Int) ∧ Below W0.heap.size W0 w' := by
  intro n na n1
  have F := int_fold n 172 #[.pointer (some ⟨w.heap.size, 0, none⟩), .pointer (some ⟨w.heap.size + 1, 0, none⟩)] (fun i => rd (digs 10000 a) (i : Int) - rd (digs 10000 b) (i : Int)) W0 n1
   (fun i => by have := rd_dig a i; have := rd_dig b i; omega) (fun i hi => by rw [rd_far _ _ (by omega), rd_far (digs 10000 b) _ (by omega)]; rfl)
   (by rw [sumD_sub, sumD_all _ _ (by omega), sumD_all _ _ (by omega)]; omega) (enters_of Tryz.func172 (by kernel_rfl) rfl)
   (fun W i hW => int_minus1 u v _ _ _ _ i W (hk1.below hW) (hk2.below hW) ((r1.below hB0).below hW) ((r2.below hB0).below hW) (rd_dig a i) (rd_dig b i))
  rw [sumD_sub, sumD_all _ _ (by omega), sumD_all _ _ (by omega)] at F
  rw [Int.ofNat_sub hba]; exact F
 have c1 := hk1.cell 0
 have c2 := hk2.cell 0
 have f1 := hk1.frozen 0
 have f2 := hk2.frozen 0
 clear hk1 hk2
 obtain ⟨A, c, rfl, _, _⟩ := r1
 obtain ⟨A2, cc, rfl, _, _⟩ := r2
 go_enter Tryz.func114, Tryz.ntmps114
 go_wp2_with (first | (go_at_call 169; refine (F _ (by omega) (by omega)).mono ?_; clear F; rintro e w2 ⟨v2, rfl, xs, hO, hl, hD, hV, hb2⟩) | (go_at_call 165; refine (int_trimmed _ _ _ hO.rd).mono ?_; rintro e w3 ⟨v3, rfl, hv3, rfl, ho3⟩))
 go_ret
 exact ⟨_, rfl, by rw [trim_of_val hD hV] at hv3; exact hv3, bZs hB0 hb2, fun k hk => Nat.le_trans hB0.size (hO.base k (by rw [← ho3]; exact hk))⟩
theorem int_by (u : Value) (a k : Nat) (w : World) (r1 : Rd w u (digs 10000 a)) (ha : (digs 10000 a).length ≤ 5000) (hk : k ≤ 9999) :
  Calls Tryz.prog 166 #[u, .int .i64 k] w fun e w' => ∃ v', e = .returned v' ∧ Rd w' v' (digs 10000 (a * k)) ∧ Below w.heap.size w w' ∧ (∀ k, v'.ownBlock = some k → w.heap.size ≤ k) := by
 obtain ⟨W0, hW0⟩ : ∃ W0, (w.alloc (.cells #[u] 166)).alloc (.cells #[.int .i64 k] 3) = W0 := ⟨_, rfl⟩
 have hB0 : Below w.heap.size w W0 := by rw [← hW0]; exact bZa (bZa (Below.refl _ _) _) _
 have hk1 : Blk W0 w.heap.size #[u] 166 := by rw [← hW0]; exact (Blk.new w _ _).alloc _
 have hk2 : Blk W0 (w.heap.size + 1) #[.int .i64 k] 3 := by
  rw [← hW0]
  have := Blk.new (w.alloc (.cells #[u] 166)) #[.int .i64 k] 3
  rwa [World.size_alloc] at this
 have F := int_fold (digs 10000 a).length 201 #[.pointer (some ⟨w.heap.size, 0, none⟩), .pointer (some ⟨w.heap.size + 1, 0, none⟩)] (fun i => rd (digs 10000 a) (i : Int) * (k : Int)) W0 (by omega)
  (fun i => by have h1 := rd_dig a i; have h2 : rd (digs 10000 a) (i : Int) * (k : Int) ≤ 9999 * 9999 := Int.mul_le_mul h1.2 (by omega) (by omega) (by omega); have h3 : 0 ≤ rd (digs 10000 a) (i : Int) * (k : Int) := Int.mul_nonneg h1.1 (by omega); omega)
  (fun i hi => by rw [rd_far _ _ hi]; simp)
  (by rw [sumD_mul, sumD_all _ _ (Nat.le_refl _)]; exact Int.mul_nonneg (by omega) (by omega)) (enters_of Tryz.func201 (by kernel_rfl) rfl)
  (fun W i hW => int_by1 u _ k _ _ i W (hk1.below hW) (hk2.below hW) ((r1.below hB0).below hW) (rd_dig a i) hk)
 rw [sumD_mul, sumD_all _ _ (Nat.le_refl _), ← Int.natCast_mul] at F
 have c1 := hk1.cell 0
 have c2 := hk2.cell 0
 have f1 := hk1.frozen 0
 have f2 := hk2.frozen 0
 clear hk1 hk2
 obtain ⟨A, c, rfl, _, _⟩ := r1
 go_enter Tryz.func166, Tryz.ntmps166
 go_wp2_with (first | (go_at_call 169; refine F.mono ?_; clear F; rintro e w2 ⟨v2, rfl, xs, hO, hl, hD, hV, hb2⟩) | (go_at_call 165; refine (int_trimmed _ _ _ hO.rd).mono ?_; rintro e w3 ⟨v3, rfl, hv3, rfl, ho3⟩))
 go_ret
 exact ⟨_, rfl, by rw [trim_of_val hD hV] at hv3; exact hv3, bZs hB0 hb2, fun k hk => Nat.le_trans hB0.size (hO.base k (by rw [← ho3]; exact hk))⟩
end Go.Proofs.YtociicfjhgfgpaaGreatDoor

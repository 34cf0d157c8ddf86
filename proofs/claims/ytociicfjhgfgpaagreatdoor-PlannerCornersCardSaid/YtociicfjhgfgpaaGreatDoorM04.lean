/- workpieceref03: times: the walk. workpieceref03: divided: the walk. -/
import Derived.Test.YtociicfjhgfgpaaGreatDoorM03
set_option linter.unusedVariables false
set_option linter.unusedSimpArgs false
namespace Go.Proofs.YtociicfjhgfgpaaGreatDoor
open Go.RowKit Go.Proofs.YtociicfjhgfgpaaGreatDoorW.PrintWords
theorem val_set (b : Nat) : ∀ (l : List Int) (j : Nat) (d : Int), j < l.length → val b (l.set j d) + b ^ j * (l.getD j 0).toNat = val b l + b ^ j * d.toNat
 | [], j, d, h => by simp at h
 | a :: l, 0, d, _ => by simp [val]; omega
 | a :: l, j + 1, d, h => by
  have ih := val_set b l j d (by simpa using h)
  show a.toNat + b * val b (l.set j d) + b ^ (j + 1) * (l.getD j 0).toNat = a.toNat + b * val b l + b ^ (j + 1) * d.toNat
  rw [Nat.pow_succ, Nat.mul_comm (b ^ j) b, Nat.mul_assoc, Nat.mul_assoc]
  have e : b * (val b (l.set j d) + b ^ j * (l.getD j 0).toNat) = b * (val b l + b ^ j * d.toNat) := by rw [ih]
  rw [Nat.mul_add, Nat.mul_add] at e
  omega
theorem dig_set {b : Nat} {l : List Int} {j : Nat} {d : Int} (h : Dig b l) (hd : 0 ≤ d ∧ d < b) : Dig b (l.set j d) := by
 intro x hx
 rcases List.mem_or_eq_of_mem_set hx with hx | rfl
 ·exact h x hx
 ·exact hd
theorem dig_rd {b : Nat} (hb : 1 ≤ b) {l : List Int} (h : Dig b l) (j : Int) : 0 ≤ rd l j ∧ rd l j < b := by
 unfold rd
 rw [List.getD_eq_getElem?_getD]
 by_cases hj : j.toNat < l.length
 ·rw [List.getElem?_eq_getElem hj]
  exact h _ (List.getElem_mem hj)
 ·rw [List.getElem?_eq_none (by omega)]
  simp
  omega
theorem times_step {l : List Int} {i k c p M : Nat} (hl : i + k < l.length) (hd : Dig 10 l) (h : val 10 l + c * 10 ^ (i + k) = M) :
  val 10 (l.set (i + k) ((((rd l ((i + k : Nat) : Int)).toNat + c + p) % 10 : Nat) : Int)) + ((rd l ((i + k : Nat) : Int)).toNat + c + p) / 10 * 10 ^ (i + (k + 1)) = M + p * 10 ^ (i + k) := by
 have h1 := val_set 10 l (i + k) ((((rd l ((i + k : Nat) : Int)).toNat + c + p) % 10 : Nat) : Int) hl
 have e : l.getD (i + k) 0 = rd l ((i + k : Nat) : Int) := by unfold rd; rw [Int.toNat_natCast]
 rw [e, Int.toNat_natCast] at h1
 generalize (rd l ((i + k : Nat) : Int)).toNat = d at *
 have h2 := Nat.div_add_mod (d + c + p) 10
 rw [show i + (k + 1) = (i + k) + 1 by omega, Nat.pow_succ]
 generalize 10 ^ (i + k) = B at *
 generalize (d + c + p) / 10 = q at *
 generalize (d + c + p) % 10 = r at *
 have h3 : B * (10 * q + r) = B * (d + c + p) := by rw [h2]
 rw [Nat.mul_add, Nat.mul_add, Nat.mul_add] at h3
 have e1 : q * (B * 10) = B * (10 * q) := by rw [Nat.mul_comm B 10, ← Nat.mul_assoc, Nat.mul_comm q 10, Nat.mul_comm]
 have e2 : c * B = B * c := Nat.mul_comm _ _
 have e3 : p * B = B * p := Nat.mul_comm _ _
 rw [e1, e3]
 rw [e2] at h
 omega
theorem times_next {x y i k xi yk : Nat} (hyk : y / 10 ^ k % 10 = yk) : x % 10 ^ i * y + xi * 10 ^ i * (y % 10 ^ k) + xi * yk * 10 ^ (i + k) = x % 10 ^ i * y + xi * 10 ^ i * (y % 10 ^ (k + 1)) := by
 rw [mod_step, hyk, Nat.pow_add, Nat.mul_add]
 have e : xi * yk * (10 ^ i * 10 ^ k) = xi * 10 ^ i * (10 ^ k * yk) := by ac_rfl
 omega
theorem times_room {y i k c n M : Nat} (hM : n + c * 10 ^ (i + k) = M) (hM2 : M < 10 ^ (i + 1) * 10 ^ y) (hc : 0 < c) : k ≤ y := by
 rcases Nat.lt_or_ge y k with h | h
 ·exfalso
  have h1 : 10 ^ (i + 1 + y) ≤ 10 ^ (i + k) := Nat.pow_le_pow_right (by decide) (by omega)
  rw [Nat.pow_add] at h1
  have h2 : 1 * 10 ^ (i + k) ≤ c * 10 ^ (i + k) := Nat.mul_le_mul_right _ hc
  omega
 ·exact h
section
variable {ops : Array Oper} {rest : List Oper} {o : Oper} {a : Act} {Q : Exit → Act → World → Prop}
theorem mk0 {w0 W : World} (base : Nat) (x y : Operand) (t : TypeId) (hgd : o.guard = none) {N : Tmp} (hd : o.dst = some N) (ho : o.op = .makeSlice t x y) (n : Int) (hx : a.eval x = .int .i64 n) (hy : a.eval y = .int .i64 n)
  (ht : Tryz.prog.underlying t = some (.slice 3)) (h0 : 0 ≤ n) (hl : n ≤ 1000000000) (HB : Below base w0 W) (hbase : base ≤ W.heap.size)
  (h : ∀ v1 w1, Own w1 base v1 (List.replicate n.toNat 0) → Below base w0 w1 → wpList Tryz.prog ops Q rest (a.put o.dst v1) w1) : wpList Tryz.prog ops Q (o :: rest) a W :=
 Kd.R_make (Kd.int .i64) base 3 hgd hd t x y ho n hx hy ht (.int .i64 0) 8 info3 rfl (by decide) (by omega) 0 (ok := fun _ => True) (okp := fun _ => True) rfl (fun _ hk => hk) trivial h0 (by omega) HB hbase
  (fun v1 w1 h1 h2 _ _ => h v1 w1 h1 h2)
end
theorem dig_zeros (n : Nat) : Dig 10 (List.replicate n 0) := by
 intro d hd
 rw [(List.mem_replicate.1 hd).2]
 omega
theorem val_zeros (b : Nat) : ∀ n, val b (List.replicate n 0) = 0
 | 0 => rfl
 | n + 1 => by
  rw [List.replicate_succ]
  show (0 : Int).toNat + b * val b (List.replicate n 0) = 0
  rw [val_zeros b n]
  simp
set_option maxHeartbeats 4000000 in
set_option maxRecDepth 100000 in
theorem ref03_times (v u : Value) (x y : Nat) (w : World) (h : Rd w v (digs 10 x)) (h2 : Rd w u (digs 10 y)) (hx : (digs 10 x).length ≤ 2000) (hy : (digs 10 y).length ≤ 2000) :
  Calls Tryz.prog 217 #[v, u] w fun e w' => ∃ v', e = .returned v' ∧ Rd w' v' (digs 10 (x * y)) ∧ Below w.heap.size w w' := by
 obtain ⟨A, c, rfl, hc, hr⟩ := h
 obtain ⟨B, d, rfl, hd, hs⟩ := h2
 go_enter Tryz.func217, Tryz.ntmps217
 go_wp2_with (at_make; refine mk0 (w0 := w) w.heap.size _ _ 165 rfl (N := 15) rfl rfl (((digs 10 x).length : Int) + ((digs 10 y).length : Int)) (by go_num) (by go_num) Tryz.underlying165 (by omega) (by omega) (Below.refl _ _) (Nat.le_refl _) ?_; intro v1 w1 ho hb)
 go_loopg [6] (digs 10 x).length (fun k v6 w' => ∃ i : Nat, v6 = .int .i64 i ∧ k + i = (digs 10 x).length ∧ (∃ L, Own w' w.heap.size v1 L ∧ L.length = (digs 10 x).length + (digs 10 y).length ∧ Dig 10 L ∧ val 10 L = x % 10 ^ i * y) ∧ Below w.heap.size w w')
 case atStart => exact ⟨0, rfl, rfl, ⟨_, ho, by rw [List.length_replicate]; omega, dig_zeros _, by rw [val_zeros, Nat.pow_zero, Nat.mod_one, Nat.zero_mul]⟩, hb⟩
 obtain ⟨i, rfl, hk, ⟨L, HO, hL, hD, hV⟩, HB⟩ := hrel
 by_cases h0 : i < (digs 10 x).length
 ·have hX : (i : Int) < ((digs 10 x).length : Int) := by omega
  obtain ⟨xi, exi⟩ : ∃ xi, x / 10 ^ i % 10 = xi := ⟨_, rfl⟩
  have hxi : xi < 10 := by rw [← exi]; exact Nat.mod_lt _ (by decide)
  have hxm : x % 10 ^ i + 10 ^ i * xi = x % 10 ^ (i + 1) := by rw [mod_step, exi]
  have HXM := Aside0.mk hxm
  clear hxm
  go_wp2
  go_loopg [7, 8] ((digs 10 y).length + 2) (fun kk v7 v8 w' => ∃ k c : Nat, v7 = .int .i64 c ∧ v8 = .int .i64 k ∧ kk + k = (digs 10 y).length + 2 ∧ c < 10 ∧ (∃ L, Own w' w.heap.size v1 L ∧ L.length = (digs 10 x).length + (digs 10 y).length ∧ Dig 10 L ∧ val 10 L + c * 10 ^ (i + k) = x % 10 ^ i * y + xi * 10 ^ i * (y % 10 ^ k)) ∧ Below w.heap.size w w')
  case atStart => exact ⟨0, 0, rfl, rfl, rfl, by decide, ⟨L, HO, hL, hD, by rw [hV, Nat.pow_zero, Nat.mod_one]; omega⟩, HB⟩
  clear HO hV hD hL HB L
  obtain ⟨k, c1, rfl, rfl, hkk, hc1, ⟨L, HO, hL, hD, hV⟩, HB⟩ := hrel
  have hr' := Kd.C_below hr HB
  have hs' := Kd.C_below hs HB
  obtain ⟨yk, eyk⟩ : ∃ yk, y / 10 ^ k % 10 = yk := ⟨_, rfl⟩
  have hyk : yk < 10 := by rw [← eyk]; exact Nat.mod_lt _ (by decide)
  by_cases hend : (digs 10 y).length ≤ k ∧ c1 = 0
  ·obtain ⟨hlk, rfl⟩ := hend
   have hb1 : ¬ ((k : Int) < ((digs 10 y).length : Int)) := by omega
   have hym : y % 10 ^ k = y := Nat.mod_eq_of_lt (Nat.lt_of_lt_of_le (digs_big (by decide) y) (Nat.pow_le_pow_right (by decide) hlk))
   have HV : Aside0 (val 10 L = x % 10 ^ (i + 1) * y) := ⟨by rw [← HXM.out, Nat.add_mul, Nat.mul_comm (10 ^ i) xi]; rw [hym] at hV; omega⟩
   clear hV hym
   go_wp2
   go_roundg ((digs 10 x).length - (i + 1))
   case measure => omega
   case rel => exact ⟨i + 1, by go_num, by omega, ⟨L, HO, hL, hD, HV.out⟩, HB⟩
  ·have hxb : x % 10 ^ i * y + xi * 10 ^ i * (y % 10 ^ k) < 10 ^ (i + 1) * 10 ^ (digs 10 y).length := by
    have h1 : x % 10 ^ (i + 1) < 10 ^ (i + 1) := Nat.mod_lt _ (Nat.pow_pos (by decide))
    have h2 := digs_big (b := 10) (by decide) y
    have h3 : xi * 10 ^ i * (y % 10 ^ k) ≤ xi * 10 ^ i * y := Nat.mul_le_mul_left _ (Nat.mod_le _ _)
    have h4 : x % 10 ^ (i + 1) * y < 10 ^ (i + 1) * 10 ^ (digs 10 y).length := Nat.mul_lt_mul_of_lt_of_le h1 (Nat.le_of_lt h2) (Nat.pow_pos (by decide))
    rw [← HXM.out, Nat.add_mul, Nat.mul_comm (10 ^ i) xi] at h4
    omega
   have hkl : k ≤ (digs 10 y).length := by
    rcases Nat.lt_or_ge k (digs 10 y).length with h | h
    ·omega
    ·exact times_room hV hxb (by omega)
   have hix : i + k < L.length := by omega
   have HST0 := times_step (p := xi * yk) hix hD hV
   rw [times_next eyk] at HST0
   have HLL := Aside0.mk hL
   have HD := Aside0.mk hD
   obtain ⟨g, cap, rfl, hg0, hg1, _⟩ := Kd.R_form HO (by omega)
   have e1 : ((i : Int) + (k : Int)) = ((i + k : Nat) : Int) := by omega
   obtain ⟨hx1, hf1⟩ := Kd.R_celln 0 HO ((i + k : Nat) : Int) (by omega) (by omega)
   rw [Int.toNat_natCast] at hx1 hf1
   obtain ⟨d0, ed0⟩ : ∃ d0 : Nat, rdOf 0 L ((i + k : Nat) : Int) = (d0 : Int) := by
    have := (dig_rd (by decide) hD ((i + k : Nat) : Int)).1
    exact ⟨(rd L ((i + k : Nat) : Int)).toNat, by rw [Int.toNat_of_nonneg this]; rfl⟩
   have hd10 : d0 < 10 := by
    have := (dig_rd (b := 10) (by decide) hD ((i + k : Nat) : Int)).2
    have e : rd L ((i + k : Nat) : Int) = (d0 : Int) := ed0
    omega
   rw [ed0] at hx1
   have HP := fun z : Int => Kd.R_putn HO ((i + k : Nat) : Int) z
   rw [Int.toNat_natCast] at HP
   have HPP := Aside0.mk HP
   clear HP
   obtain ⟨ad, rfl, hxa⟩ := Kd.at_int hr' (i : Int) (by omega) hX
   rw [Int.toNat_natCast, digs_rd (by decide), exi] at hxa
   have ex1 : ((i : Int) + (k : Int)).toNat = i + k := by omega
   have hik1 : 0 ≤ (i : Int) + (k : Int) := by omega
   have hik2 : (i : Int) + (k : Int) < (L.length : Int) := by omega
   have erd : rd L ((i + k : Nat) : Int) = (d0 : Int) := ed0
   rw [erd, Int.toNat_natCast] at HST0
   have HST := Aside0.mk HST0
   clear ed0 hD hV hxb e1 HST0 erd hL
   by_cases hY : (k : Int) < ((digs 10 y).length : Int)
   ·obtain ⟨bd, rfl, hya⟩ := Kd.at_int hs' (k : Int) (by omega) hY
    rw [Int.toNat_natCast, digs_rd (by decide), eyk] at hya
    obtain ⟨m, em⟩ : ∃ m, xi * yk = m := ⟨_, rfl⟩
    have hm : m ≤ 81 := by
     have : xi * yk ≤ 9 * 9 := Nat.mul_le_mul (by omega) (by omega)
     omega
    have hmul : (xi : Int) * (yk : Int) = (m : Int) := by rw [← em]; push_cast; rfl
    have hst := HST.out
    rw [em] at hst
    clear HST
    have HST := Aside0.mk hst
    clear hst
    have HPD := Aside0.mk (fun z : Int => Kd.R_putn (Kd.R_drew HO) ((i + k : Nat) : Int) z)
    clear em exi eyk
    go_wp2
    go_region
    go_wp2
    go_roundg (gk - 1)
    case measure => omega
    case rel =>
     refine ⟨k + 1, (d0 + c1 + m) / 10, by go_num, by go_num, by omega, by omega, ⟨L.set (i + k) (((d0 + c1 + m) % 10 : Nat) : Int), ?_, by rw [List.length_set]; exact HLL.out, dig_set HD.out (by omega), HST.out⟩, ?_⟩
     ·have := HPD.out (((d0 + c1 + m) % 10 : Nat) : Int)
      rw [Int.toNat_natCast] at this
      exact this
     ·exact below_set (below_drew HB) hg0
   ·have hyk0 : y / 10 ^ k = 0 := by
     have := digs_lt (b := 10) (by decide) y k
     exact Nat.eq_zero_of_not_pos fun h => hY (by have := this.2 h; omega)
    obtain rfl : yk = 0 := by rw [← eyk, hyk0]
    have hst := HST.out
    rw [Nat.mul_zero, Nat.add_zero] at hst
    clear HST
    have HST := Aside0.mk hst
    clear hst exi eyk hyk0
    have hcp : (c1 : Int) > 0 := by omega
    go_wp2
    go_roundg (gk - 1)
    case measure => omega
    case rel =>
     refine ⟨k + 1, (d0 + c1) / 10, by go_num, by go_num, by omega, by omega, ⟨L.set (i + k) (((d0 + c1) % 10 : Nat) : Int), HPP.out (((d0 + c1) % 10 : Nat) : Int), by rw [List.length_set]; exact HLL.out, dig_set HD.out (by omega), HST.out⟩, ?_⟩
     exact below_set HB hg0
 ·have hX : ¬ (i : Int) < ((digs 10 x).length : Int) := by omega
  have hxx : x % 10 ^ i = x := Nat.mod_eq_of_lt (Nat.lt_of_lt_of_le (digs_big (by decide) x) (Nat.pow_le_pow_right (by decide) (by omega)))
  have HT : Aside0 (trimL L = digs 10 (x * y)) := ⟨by rw [trimL_val (by decide) _ hD, hV, hxx]⟩
  have HOr := HO.rd
  clear hV hD hxx hL
  go_wp2_with (go_at_call 190; refine (ref03_trim _ _ _ HOr).mono ?_; rintro e w2 ⟨v2, rfl, hv2, hb2, _⟩)
  go_ret
  exact ⟨_, rfl, by rw [HT.out] at hv2; exact hv2, below_step HB hb2⟩
end Go.Proofs.YtociicfjhgfgpaaGreatDoor
namespace Go.Proofs.YtociicfjhgfgpaaGreatDoor
open Go.RowKit Go.Proofs.YtociicfjhgfgpaaGreatDoorW.PrintWords
theorem own_of_cells {w : World} {base : Nat} {v : Value} {xs : List Int} (h : w.ownsRow base 3 1 v xs.length (nums .i64 xs)) : Own w base v xs := Kd.R_of_own h (fun _ _ => trivial)
theorem own_lit1 (W : World) (base : Nat) (y : Int) (hb : base ≤ W.heap.size) : Own (W.alloc (.cells #[.int .i64 y] 3)) base (.slice (some ⟨W.heap.size, 0, none⟩) 1 1) [y] := by
 have h := World.ownsRow_lit (base := base) (e := 3) (size := 1) W #[.int .i64 y] 1 hb (by unfold maxLen; decide) (by simp)
 exact own_of_cells h
section
variable {ops : Array Oper} {rest : List Oper} {o : Oper} {a : Act} {Q : Exit → Act → World → Prop}
theorem appN {w0 W : World} (base : Nat) (s x : Operand) (t : TypeId) (hgd : o.guard = none) (ho : o.op = .call { callee := .builtin .append, args := #[s, x], argTypes := #[t, t] })
  (ht : Tryz.prog.underlying t = some (.slice 3)) (v : Value) (xs ys : List Int) (A : Option Addr) (m c : Nat) (hs : a.eval s = v) (hx : a.eval x = .slice A m c)
  (HO : Own W base v xs) (HR : (Kd.int .i64).C W A m ys) (HB : Below base w0 W) (hbase : base ≤ W.heap.size) (hl : xs.length + m < 17592186044415)
  (h : ∀ v1 w1, Own w1 base v1 (xs ++ ys) → Below base w0 w1 → W.grownBy w1 v.ownBlock → wpList Tryz.prog ops Q rest (a.put o.dst v1) w1) :
  wpList Tryz.prog ops Q (o :: rest) a W :=
 Kd.R_append_rows (Kd.int .i64) base hgd s x t 3 (.int .i64 0) 8 ho ht info3 rfl (by decide) (by omega) v xs ys A m c (fun _ => True) (fun _ => False) hs hx HO HR (fun _ _ hk => hk) (fun _ hk => hk.elim) (fun _ _ => trivial) HB hbase (by omega)
  (fun v1 w1 h1 h2 h3 _ => h v1 w1 h1 h2 h3)
end
theorem div_step (x y m : Nat) (hy : 0 < y) : x / 10 ^ m / y = 10 * (x / 10 ^ (m + 1) / y) + (x / 10 ^ m % 10 + 10 * (x / 10 ^ (m + 1) % y)) / y ∧ x / 10 ^ m % y = (x / 10 ^ m % 10 + 10 * (x / 10 ^ (m + 1) % y)) % y := by
 have e : x / 10 ^ (m + 1) = x / 10 ^ m / 10 := by rw [Nat.pow_succ, Nat.div_div_eq_div_mul]
 rw [e]
 generalize x / 10 ^ m = z
 have h1 := Nat.div_add_mod z 10
 have h2 := Nat.div_add_mod (z / 10) y
 have e2 : z = (z % 10 + 10 * (z / 10 % y)) + y * (10 * (z / 10 / y)) := by
  have h3 : 10 * (y * (z / 10 / y) + z / 10 % y) = 10 * (z / 10) := by rw [h2]
  have h4 : y * (10 * (z / 10 / y)) = 10 * (y * (z / 10 / y)) := by ac_rfl
  rw [Nat.mul_add] at h3
  omega
 constructor
 ·conv => lhs; rw [e2, Nat.add_mul_div_left _ _ hy]
  omega
 ·conv => lhs; rw [e2, Nat.add_mul_mod_self_left]
theorem set_same : ∀ (l : List Int) (m : Nat), l.getD m 0 = 0 → l.set m 0 = l
 | [], _, _ => rfl
 | a :: l, 0, h => by
  have : a = 0 := h
  rw [this]
  rfl
 | a :: l, m + 1, h => by
  show a :: l.set m 0 = a :: l
  rw [set_same l m h]
theorem rd_set_same (l : List Int) (m : Nat) (v : Int) (h : m < l.length) : rdOf 0 (l.set m v) (m : Int) = v := by
 show rd (l.set m v) (m : Int) = v
 unfold rd
 rw [Int.toNat_natCast, List.getD_eq_getElem?_getD, List.getElem?_set_self h]
 rfl
theorem Own.lt {w : World} {base : Nat} {v : Value} {xs : List Int} (h : Own w base v xs) : ∀ k, v.ownBlock = some k → k < w.heap.size := Kd.R_lt h
theorem Rd.far {w : World} {v : Value} {xs : List Int} {p : Addr} (h : Rd w v xs) (hp : ∀ k, v.ownBlock = some k → p.block < k) (u : Value) : Rd (w.setCell p u) v xs := by
 obtain ⟨A, c, rfl, hc, h1, h2, h3⟩ := h
 refine ⟨A, c, rfl, hc, h1, h2, fun hq => ?_⟩
 obtain ⟨ad, rfl, hh⟩ := h3 hq
 have hne : ad.block ≠ p.block := by have := hp ad.block rfl; omega
 refine ⟨ad, rfl, fun j x hj => ?_⟩
 obtain ⟨cs, hl, hk, hcell⟩ := hh j x hj
 refine ⟨cs, hl, hk, fun i z hz => ?_⟩
 rw [World.cell?_of_block (w := w) (a := ad.add (j * (Kd.int .i64).sz + i))]
 ·exact hcell i z hz
 ·refine Below.heap_setCell w p u _ ?_
  rw [show (ad.add (j * (Kd.int .i64).sz + i)).block = ad.block by unfold Addr.add; split <;> rfl]
  exact hne
theorem trim_cons (d r : Nat) (hd : d < 10) : trimL (((d : Nat) : Int) :: digs 10 r) = digs 10 (d + 10 * r) := by
 have h : Dig 10 (((d : Nat) : Int) :: digs 10 r) := by
  intro z hz
  rcases List.mem_cons.1 hz with rfl | hz
  ·omega
  ·exact digs_dig (by decide) r z hz
 rw [trimL_val (by decide) _ h]
 show digs 10 (((d : Nat) : Int).toNat + 10 * val 10 (digs 10 r)) = _
 rw [val_digs (by decide), Int.toNat_natCast]
set_option maxHeartbeats 4000000 in
set_option maxRecDepth 100000 in
theorem ref03_divided (v u : Value) (x y : Nat) (w : World) (h : Rd w v (digs 10 x)) (h2 : Rd w u (digs 10 y)) (hx : (digs 10 x).length ≤ 4000) (hy : (digs 10 y).length ≤ 4000) (hy0 : 0 < y) :
  Calls Tryz.prog 143 #[v, u] w fun e w' => ∃ v1 v2, e = .returned (.tuple #[v1, v2]) ∧ Rd w' v1 (digs 10 (x / y)) ∧ Rd w' v2 (digs 10 (x % y)) ∧ Below w.heap.size w w' := by
 obtain ⟨A, c, rfl, hc, hr⟩ := h
 have h2' := h2
 obtain ⟨B, d, rfl, hd, hs⟩ := h2
 go_enter Tryz.func143, Tryz.ntmps143
 go_wp2_with (at_make; refine mk0 (w0 := w) w.heap.size _ _ 165 rfl (N := 11) rfl rfl ((digs 10 x).length : Int) (by go_num) (by go_num) Tryz.underlying165 (by omega) (by omega) (Below.refl _ _) (Nat.le_refl _) ?_; intro v1 w1 ho hb)
 have hw0 : wrap64 (((digs 10 x).length : Int) - 1) = ((digs 10 x).length : Int) - 1 := by unfold wrap64; omega
 go_loopg [7, 8] (digs 10 x).length (fun k v7 v8 w' => v8 = .int .i64 ((k : Int) - 1) ∧ k ≤ (digs 10 x).length ∧ Rd w' v7 (digs 10 (x / 10 ^ k % y)) ∧ (∃ L, Own w' w.heap.size v1 L ∧ L.length = (digs 10 x).length ∧ Dig 10 L ∧ (∀ j, j < k → L.getD j 0 = 0) ∧ val 10 L = 10 ^ k * (x / 10 ^ k / y)) ∧ Below w.heap.size w w')
 case atStart =>
  have hxz : x / 10 ^ (digs 10 x).length = 0 := Nat.div_eq_of_lt (digs_big (by decide) x)
  refine ⟨by go_num, Nat.le_refl _, ?_, ⟨_, ho, by rw [List.length_replicate, Int.toNat_natCast], dig_zeros _, ?_, ?_⟩, hb⟩
  ·rw [hxz, Nat.zero_mod, digs_zero]
   exact (Own.nil w1 w.heap.size).rd
  ·intro j hj
   rw [List.getD_eq_getElem?_getD, List.getElem?_replicate]
   split <;> rfl
  ·rw [val_zeros, hxz, Nat.zero_div, Nat.mul_zero]
 obtain ⟨rfl, hk, HR, ⟨L, HO, hL, hD, hZ, hV⟩, HB⟩ := hrel
 clear hw0
 cases gk with
 | zero =>
  have HT : Aside0 (trimL L = digs 10 (x / y)) := ⟨by rw [trimL_val (by decide) _ hD, hV]; simp⟩
  have HR0 : Aside0 (digs 10 (x / 10 ^ 0 % y) = digs 10 (x % y)) := ⟨by simp⟩
  have HRR := Aside0.mk HR
  have HOr := HO.rd
  clear hV hD hL hZ HR
  go_wp2_with (go_at_call 190; refine (ref03_trim _ _ _ HOr).mono ?_; rintro e w2 ⟨v2, rfl, hv2, hb2, _⟩)
  go_ret2
  refine ⟨_, _, rfl, by rw [HT.out] at hv2; exact hv2, ?_, below_step HB hb2⟩
  have := HRR.out.below hb2
  rw [HR0.out] at this
  exact this
 | succ m =>
  obtain ⟨ad, rfl, hxa⟩ := Kd.at_int (Kd.C_below hr HB) (m : Int) (by omega) (by omega)
  obtain ⟨xm, exm⟩ : ∃ xm, x / 10 ^ m % 10 = xm := ⟨_, rfl⟩
  have hxm : xm < 10 := by rw [← exm]; exact Nat.mod_lt _ (by decide)
  rw [Int.toNat_natCast, digs_rd (by decide), exm] at hxa
  obtain ⟨r0, er0⟩ : ∃ r0, x / 10 ^ (m + 1) % y = r0 := ⟨_, rfl⟩
  have hr0 : r0 < y := by rw [← er0]; exact Nat.mod_lt _ hy0
  rw [er0] at HR
  obtain ⟨D, e, rfl, he, hrr⟩ := HR
  rw [show ((m + 1 : Nat) : Int) - 1 = (m : Int) by omega]
  have hwm : wrap64 ((m : Int) - 1) = (m : Int) - 1 := by unfold wrap64; omega
  have hmi : (m : Int) < ((digs 10 x).length : Int) := by omega
  have HV := Aside0.mk hV
  have HZ := Aside0.mk hZ
  have HL := Aside0.mk hL
  have HTC := Aside0.mk (trim_cons xm r0 hxm)
  have EXM := Aside0.mk exm
  have ER00 := Aside0.mk er0
  clear hV hZ hL exm er0
  have hrl : (digs 10 r0).length ≤ 4000 := Nat.le_trans (digs_len_le (by decide) (Nat.lt_trans hr0 (digs_big (b := 10) (by decide) y))) hy
  go_wp2_with (first | (at_builtin; refine appN (w0 := wr) wr.heap.size _ _ 165 rfl rfl Tryz.underlying165 _ _ _ _ _ _ rfl rfl (own_lit1 wr wr.heap.size xm (Nat.le_refl _)) (Kd.C_alloc hrr _) (below_alloc (Below.refl _ _) _) (by simp) (by simp; omega) ?_; intro v3 w3 ho3 hb3 hg3) | (go_at_call 190; refine (ref03_trim _ _ _ ho3.rd).mono ?_; rintro e w2 ⟨v2, rfl, hv2, hb2, _⟩))
  have hv2' : Rd w2 v2 (digs 10 (xm + 10 * r0)) := by rw [← HTC.out]; exact hv2
  have HB2 : Below w.heap.size w w2 := below_step (below_step HB hb3) hb2
  have HO2 : Own w2 w.heap.size v1 L := (HO.below hb3).below hb2
  clear hv2 hg3 ho3 hb3 hb2 HO HB hrr
  obtain ⟨R0, eR0⟩ : ∃ R0, xm + 10 * r0 = R0 := ⟨_, rfl⟩
  have hR0 : R0 / y < 10 := Nat.div_lt_of_lt_mul (by omega)
  rw [eR0] at hv2'
  have ER0 := Aside0.mk eR0
  clear eR0
  obtain ⟨g, cap, rfl, hg0, hg1, _⟩ := Kd.R_form HO2 (by have := HL.out; omega)
  go_loopg [7] (R0 / y) (fun kk v7 w' => ∃ t : Nat, kk + t = R0 / y ∧ Rd w' v7 (digs 10 (R0 - t * y)) ∧ Own w' w.heap.size (.slice (some ⟨g, 0, none⟩) L.length cap) (L.set m (t : Int)) ∧ Below w.heap.size w w')
  case atStart => exact ⟨0, rfl, by rw [Nat.zero_mul]; exact hv2', by rw [Int.ofNat_zero, set_same _ _ (HZ.out m (Nat.lt_succ_self m))]; exact HO2, HB2⟩
  clear hv2' HO2 HB2
  obtain ⟨t, ht, HR, HO, HB⟩ := hrel
  obtain ⟨r1, er1⟩ : ∃ r1, R0 - t * y = r1 := ⟨_, rfl⟩
  have htR : t * y ≤ R0 := by
   have h1 := Nat.div_mul_le_self R0 y
   have h2 : t * y ≤ R0 / y * y := Nat.mul_le_mul_right _ (by omega)
   omega
  rw [er1] at HR
  have hyB := h2'.below HB
  have hord := ordL_digs (b := 10) (by decide) r1 y
  by_cases hlt : r1 < y
  ·have hq : t = R0 / y := by
    have h1 : R0 = r1 + y * t := by rw [Nat.mul_comm y t]; omega
    rw [h1, Nat.add_mul_div_left _ _ hy0, Nat.div_eq_of_lt hlt]
    omega
   have hrq : R0 % y = r1 := by
    have h1 : R0 = r1 + y * t := by rw [Nat.mul_comm y t]; omega
    rw [h1, Nat.add_mul_mod_self_left, Nat.mod_eq_of_lt hlt]
   have FIN : Aside0 (x / 10 ^ m % y = r1 ∧ Dig 10 (L.set m (t : Int)) ∧ (∀ j, j < m → (L.set m (t : Int)).getD j 0 = 0) ∧ val 10 (L.set m (t : Int)) = 10 ^ m * (x / 10 ^ m / y)) := by
    obtain ⟨d1, d2⟩ := div_step x y m hy0
    rw [EXM.out, ER00.out, ER0.out] at d2
    rw [EXM.out, ER00.out, ER0.out, ← hq] at d1
    refine ⟨by rw [d2, hrq], dig_set hD (by omega), fun j hj => ?_, ?_⟩
    ·rw [List.getD_eq_getElem?_getD, List.getElem?_set_ne (by omega), ← List.getD_eq_getElem?_getD]
     exact HZ.out j (by omega)
    ·have h1 := val_set 10 L m (t : Int) (by have := HL.out; omega)
     rw [HZ.out m (by omega), HV.out, Int.toNat_natCast] at h1
     rw [d1, Nat.mul_add]
     rw [Nat.pow_succ] at h1
     have h2 : 10 ^ m * 10 * (x / (10 ^ m * 10) / y) = 10 ^ m * (10 * (x / 10 ^ (m + 1) / y)) := by rw [Nat.pow_succ, Nat.mul_assoc]
     rw [h2] at h1
     simpa using h1
   unfold cmpN at hord
   rw [if_pos hlt] at hord
   clear hq hrq er1
   go_wp2_with (go_at_call 142; refine (ref03_order _ _ _ _ _ HR hyB).mono ?_; rintro e w2 ⟨rfl, hb2⟩; rw [hord])
   obtain ⟨F1, F2, F3, F4⟩ := FIN.out
   go_roundg m
   case measure => omega
   case rel => exact ⟨by go_num, by omega, by rw [F1]; exact HR.below hb2, ⟨_, HO.below hb2, by rw [List.length_set]; exact HL.out, F2, F3, F4⟩, below_step HB hb2⟩
  ·have hge : y ≤ r1 := by omega
   have hrl1 : (digs 10 r1).length ≤ 5000 := by
    have h1 := digs_big (b := 10) (by decide) y
    have h2 := ER0.out
    have h3 : r1 < 10 ^ ((digs 10 y).length + 1) := by rw [Nat.pow_succ]; omega
    have := digs_len_le (by decide) h3
    omega
   have hnn : (ordL (digs 10 r1) (digs 10 y)) ≥ 0 := by
    rw [hord]
    unfold cmpN
    rw [if_neg hlt]
    split <;> decide
   clear hord
   have hmL : m < L.length := by have := HL.out; omega
   have hmLi : (m : Int) < (L.length : Int) := by omega
   have htq : t < R0 / y := by
    rcases Nat.lt_or_ge t (R0 / y) with h | h
    ·exact h
    ·exfalso
     have h1 := Nat.div_add_mod R0 y
     have h2 := Nat.mod_lt R0 hy0
     have h3 : t = R0 / y := by omega
     rw [h3, Nat.mul_comm] at er1
     omega
   have ht9 : t < 9 := by omega
   have _unused : True := by trivial
   have ht9' : t < 9 := by
    rcases Nat.lt_or_ge t (R0 / y) with h | h
    ·omega
    ·exfalso
     have h1 := Nat.div_add_mod R0 y
     have h2 := Nat.mod_lt R0 hy0
     have h3 : t = R0 / y := by omega
     rw [h3, Nat.mul_comm] at er1
     omega
   have RS := Aside0.mk (rd_set_same L m (t : Int) hmL)
   have ER1 := Aside0.mk er1
   have HTR := Aside0.mk htR
   clear er1 htR
   go_wp2_with (first | (go_at_call 142; refine (ref03_order _ _ _ _ _ HR hyB).mono ?_; rintro e w2 ⟨rfl, hb2⟩) | (go_at_call 189; refine (ref03_minus _ _ _ _ _ (HR.below hb2) (hyB.below hb2) hrl1 hge).mono ?_; rintro e w3 ⟨v3, rfl, hv3, hb3, hk3⟩; have HO3 := (HO.below hb2).below hb3; obtain ⟨hx1, hf1⟩ := Kd.R_celln 0 HO3 (m : Int) (by omega) hmLi; rw [RS.out] at hx1; rw [Int.toNat_natCast] at hx1 hf1))
   go_roundg (gk - 1)
   case measure => omega
   case rel =>
    refine ⟨t + 1, by omega, ?_, ?_, below_set (below_step (below_step HB hb2) hb3) hg0⟩
    ·rw [show R0 - (t + 1) * y = r1 - y by rw [Nat.add_mul]; have := ER1.out; omega]
     exact hv3.far (fun k hk => by have h1 := hk3 k hk; have h2 := hb2.size; have h3 := HO.lt g rfl; show g < k; omega) _
    ·have := Kd.R_putn HO3 (m : Int) ((t : Int) + 1)
     rw [Int.toNat_natCast, List.set_set] at this
     exact this
end Go.Proofs.YtociicfjhgfgpaaGreatDoor

/- Order, trimming and the number of a list of digits: plain facts. workpieceref03: plus, minus: the walks. workpieceref03: minus: the walk. workpieceref03: times: the walk. workpieceref03: divided: the walk. -/
import Derived.Test.YtociicfjhgfgpaaGreatDoorR02
set_option linter.unusedVariables false
set_option linter.unusedSimpArgs false
set_option maxHeartbeats 4000000
set_option maxRecDepth 100000
namespace Go.Proofs.YtociicfjhgfgpaaGreatDoor
open Go.RowKit Go.Proofs.YtociicfjhgfgpaaGreatDoorW.PrintWords
def cmpN (x y : Nat) : Int := if x < y then -1 else if x = y then 0 else 1
theorem mod_step (b x n : Nat) : x % b ^ (n + 1) = x % b ^ n + b ^ n * (x / b ^ n % b) := by
 rw [Nat.pow_succ, Nat.mod_mul]
theorem ordN_digs {b : Nat} (hb : 2 ≤ b) (x y : Nat) : ∀ n, ordN (digs b x) (digs b y) n = cmpN (x % b ^ n) (y % b ^ n)
 | 0 => by simp [ordN, cmpN, Nat.mod_one]
 | n + 1 => by
  unfold ordN
  rw [digs_rd hb, digs_rd hb, ordN_digs hb x y n, mod_step b x n, mod_step b y n]
  have hp : 0 < b ^ n := Nat.pow_pos (by omega)
  have h1 : x % b ^ n < b ^ n := Nat.mod_lt _ hp
  have h2 : y % b ^ n < b ^ n := Nat.mod_lt _ hp
  generalize x % b ^ n = u at h1 ⊢
  generalize y % b ^ n = v at h2 ⊢
  generalize x / b ^ n % b = p
  generalize y / b ^ n % b = q
  generalize b ^ n = B at hp h1 h2 ⊢
  rcases Nat.lt_trichotomy p q with h | h | h
  ·rw [if_neg (by omega), if_pos (by omega)]
   have : B * (p + 1) ≤ B * q := Nat.mul_le_mul_left _ h
   rw [Nat.mul_add] at this
   unfold cmpN
   rw [if_pos (by omega)]
  ·subst h
   rw [if_pos rfl]
   unfold cmpN
   split
   ·rw [if_pos (by omega)]
   ·split
    ·rw [if_neg (by omega), if_pos (by omega)]
    ·rw [if_neg (by omega), if_neg (by omega)]
  ·rw [if_neg (by omega), if_neg (by omega)]
   have : B * (q + 1) ≤ B * p := Nat.mul_le_mul_left _ h
   rw [Nat.mul_add] at this
   unfold cmpN
   rw [if_neg (by omega), if_neg (by omega)]
theorem digs_big {b : Nat} (hb : 2 ≤ b) (x : Nat) : x < b ^ (digs b x).length := by
 have h : ¬ (digs b x).length < (digs b x).length := Nat.lt_irrefl _
 rw [digs_lt hb] at h
 have hp : 0 < b ^ (digs b x).length := Nat.pow_pos (by omega)
 rcases Nat.lt_or_ge x (b ^ (digs b x).length) with h1 | h1
 ·exact h1
 ·have := Nat.div_pos h1 hp
  omega
theorem digs_small {b : Nat} (hb : 2 ≤ b) (x i : Nat) (h : i < (digs b x).length) : b ^ i ≤ x := by
 have := (digs_lt hb x i).1 h
 rcases Nat.lt_or_ge x (b ^ i) with h1 | h1
 ·rw [Nat.div_eq_of_lt h1] at this
  omega
 ·exact h1
theorem ordL_digs {b : Nat} (hb : 2 ≤ b) (x y : Nat) : ordL (digs b x) (digs b y) = cmpN x y := by
 have hx := digs_big hb x
 have hy := digs_big hb y
 unfold ordL
 by_cases h : (digs b x).length = (digs b y).length
 ·rw [if_pos h, ordN_digs hb, Nat.mod_eq_of_lt hx, Nat.mod_eq_of_lt (by rw [h]; exact hy)]
 ·rw [if_neg h]
  by_cases h2 : (digs b x).length < (digs b y).length
  ·rw [if_pos h2]
   have h3 := digs_small hb y _ h2
   unfold cmpN
   rw [if_pos (by omega)]
  ·rw [if_neg h2]
   have h3 := digs_small hb x (digs b y).length (by omega)
   unfold cmpN
   rw [if_neg (by omega), if_neg (by omega)]
def val (b : Nat) : List Int → Nat
 | [] => 0
 | d :: l => d.toNat + b * val b l
def Dig (b : Nat) (l : List Int) : Prop := ∀ d ∈ l, 0 ≤ d ∧ d < b
theorem digs_dig {b : Nat} (hb : 2 ≤ b) : ∀ n, Dig b (digs b n) := by
 intro n
 induction n using Nat.strongRecOn with
 | _ n ih =>
  by_cases hn : n = 0
  ·subst hn
   rw [digs_zero]
   intro d hd
   cases hd
  ·rw [digs_pos hb (by omega)]
   intro d hd
   rcases List.mem_cons.1 hd with rfl | hd
   ·have := Nat.mod_lt n (show 0 < b by omega)
    omega
   ·exact ih (n / b) (Nat.div_lt_self (by omega) (by omega)) d hd
theorem val_digs {b : Nat} (hb : 2 ≤ b) : ∀ n, val b (digs b n) = n := by
 intro n
 induction n using Nat.strongRecOn with
 | _ n ih =>
  by_cases hn : n = 0
  ·subst hn
   rw [digs_zero]
   rfl
  ·rw [digs_pos hb (by omega)]
   show ((n % b : Nat) : Int).toNat + b * val b (digs b (n / b)) = n
   rw [ih (n / b) (Nat.div_lt_self (by omega) (by omega)), Int.toNat_natCast]
   exact Nat.mod_add_div n b
theorem trimL_nil : trimL [] = [] := rfl
theorem trimN_snoc (l : List Int) (d : Int) : ∀ n, n ≤ l.length → trimN (l ++ [d]) n = trimN l n
 | 0, _ => rfl
 | n + 1, h => by
  have e : rd (l ++ [d]) (n : Int) = rd l (n : Int) := by
   unfold rd
   rw [Int.toNat_natCast, List.getD_eq_getElem?_getD, List.getD_eq_getElem?_getD, List.getElem?_append_left (by omega)]
  unfold trimN
  rw [e, trimN_snoc l d n (by omega)]
theorem trimL_snoc (l : List Int) (d : Int) : trimL (l ++ [d]) = if d = 0 then trimL l else l ++ [d] := by
 unfold trimL
 rw [List.length_append]
 show (l ++ [d]).take (trimN (l ++ [d]) (l.length + 1)) = _
 have e : rd (l ++ [d]) ((l.length : Nat) : Int) = d := by
  unfold rd
  rw [Int.toNat_natCast, List.getD_eq_getElem?_getD, List.getElem?_append_right (Nat.le_refl _)]
  simp
 have e2 : trimN (l ++ [d]) (l.length + 1) = if rd (l ++ [d]) ((l.length : Nat) : Int) = 0 then trimN (l ++ [d]) l.length else l.length + 1 := rfl
 rw [e2, e]
 split
 ·rw [trimN_snoc l d _ (Nat.le_refl _), List.take_append_of_le_length (trimN_le _ _)]
 ·exact List.take_of_length_le (by simp)
theorem val_snoc (b : Nat) : ∀ (l : List Int) (d : Int), val b (l ++ [d]) = val b l + b ^ l.length * d.toNat
 | [], d => by simp [val]
 | a :: l, d => by
  show a.toNat + b * val b (l ++ [d]) = a.toNat + b * val b l + b ^ (l.length + 1) * d.toNat
  rw [val_snoc b l d, Nat.mul_add, Nat.pow_succ, ← Nat.mul_assoc, Nat.mul_comm b (b ^ l.length), Nat.add_assoc]
theorem val_lt {b : Nat} (hb : 2 ≤ b) : ∀ l, Dig b l → val b l < b ^ l.length
 | [], _ => by simp [val]
 | a :: l, h => by
  have h1 := h a List.mem_cons_self
  have h2 := val_lt hb l (fun d hd => h d (List.mem_cons_of_mem _ hd))
  show a.toNat + b * val b l < b ^ (l.length + 1)
  rw [Nat.pow_succ, Nat.mul_comm (b ^ l.length)]
  have h3 : b * (val b l + 1) ≤ b * b ^ l.length := Nat.mul_le_mul_left _ h2
  rw [Nat.mul_add] at h3
  omega
theorem digs_val {b : Nat} (hb : 2 ≤ b) : ∀ (l : List Int), Dig b l → (∀ (k : List Int) (d : Int), l = k ++ [d] → d ≠ 0) → digs b (val b l) = l
 | [], _, _ => digs_zero b
 | a :: l, h, hl => by
  have h1 := h a List.mem_cons_self
  have ih := digs_val hb l (fun d hd => h d (List.mem_cons_of_mem _ hd)) (fun k d e => hl (a :: k) d (by rw [e]; rfl))
  show digs b (a.toNat + b * val b l) = _
  have hpos : 0 < a.toNat + b * val b l := by
   cases l with
   | nil =>
    have := hl [] a rfl
    omega
   | cons c l =>
    have h0 : val b (c :: l) ≠ 0 := by
     intro h0
     rw [h0, digs_zero] at ih
     cases ih
    have : b * 1 ≤ b * val b (c :: l) := Nat.mul_le_mul_left _ (by omega)
    omega
  rw [digs_pos hb hpos, Nat.add_mul_mod_self_left, Nat.mod_eq_of_lt (by omega), Nat.add_mul_div_left _ _ (by omega), Nat.div_eq_of_lt (by omega), Nat.zero_add, ih]
  congr 1
  omega
theorem trimL_val {b : Nat} (hb : 2 ≤ b) (l : List Int) (h : Dig b l) : trimL l = digs b (val b l) := by
 have key : ∀ n (l : List Int), l.length = n → Dig b l → trimL l = digs b (val b l) := by
  intro n
  induction n with
  | zero =>
   intro l hl _
   obtain rfl := List.eq_nil_of_length_eq_zero hl
   rw [trimL_nil]
   exact (digs_zero b).symm
  | succ n ih =>
   intro l hl h
   have hne : l ≠ [] := by rintro rfl; cases hl
   obtain ⟨k, d, rfl⟩ : ∃ k d, l = k ++ [d] := ⟨l.dropLast, l.getLast hne, (List.dropLast_concat_getLast hne).symm⟩
   rw [trimL_snoc]
   have hk : Dig b k := fun x hx => h x (List.mem_append_left _ hx)
   by_cases hd : d = 0
   ·subst hd
    rw [if_pos rfl, ih k (by simpa using hl) hk, val_snoc]
    simp
   ·rw [if_neg hd]
    refine (digs_val hb _ h ?_).symm
    intro k' d' e
    have := congrArg List.getLast? e
    simp at this
    omega
 exact key _ l rfl h
theorem low_dig {b : Nat} (hb : 2 ≤ b) (n i : Nat) : Dig b (low b n i) := by
 intro d hd
 unfold low at hd
 obtain ⟨j, _, rfl⟩ := List.mem_map.1 hd
 have := Nat.mod_lt (n / b ^ j) (show 0 < b by omega)
 omega
theorem val_low {b : Nat} (hb : 2 ≤ b) (n : Nat) : ∀ i, val b (low b n i) = n % b ^ i
 | 0 => by simp [low_zero, val, Nat.mod_one]
 | i + 1 => by rw [low_succ, val_snoc, val_low hb n i, low_len, Int.toNat_natCast, mod_step]
theorem trim_low {b : Nat} (hb : 2 ≤ b) (n i : Nat) : trimL (low b n i) = digs b (n % b ^ i) := by
 rw [trimL_val hb _ (low_dig hb n i), val_low hb]
def Own (w : World) (base : Nat) (v : Value) (xs : List Int) : Prop := (Kd.int .i64).R 3 w base (fun _ => True) v xs
theorem Own.rd {w : World} {base : Nat} {v : Value} {xs : List Int} (h : Own w base v xs) : Rd w v xs := Kd.R_reads h
theorem Own.below {w w' : World} {base : Nat} {v : Value} {xs : List Int} (h : Own w base v xs) (hb : Below w.heap.size w w') : Own w' base v xs := Kd.R_below h hb
theorem Own.nil (w : World) (base : Nat) : Own w base (.slice none 0 0) [] := Kd.R_nil _ _ _ _ _
section
variable {ops : Array Oper} {rest : List Oper} {o : Oper} {a : Act} {Q : Exit → Act → World → Prop}
theorem app1 {w0 W : World} (base : Nat) (s x : Operand) (t : TypeId) (hgd : o.guard = none) (ho : o.op = .call { callee := .builtin .append, args := #[s, x], argTypes := #[t, t] })
  (ht : Tryz.prog.underlying t = some (.slice 3)) (v : Value) (xs : List Int) (y : Int) (hs : a.eval s = v) (hx : a.eval x = .slice (some ⟨W.heap.size, 0, none⟩) 1 1)
  (HO : Own W base v xs) (HB : Below base w0 W) (hbase : base ≤ W.heap.size) (hl : xs.length < 17592186044415)
  (h : ∀ v1 w1, Own w1 base v1 (xs ++ [y]) → Below base w0 w1 → W.grownBy w1 v.ownBlock → wpList Tryz.prog ops Q rest (a.put o.dst v1) w1) :
  wpList Tryz.prog ops Q (o :: rest) a (W.alloc (.cells #[.int .i64 y] 3)) :=
 Kd.R_append (Kd.int .i64) base hgd s x t 3 (.int .i64 0) 8 ho ht info3 rfl (by decide) (by omega) v xs y [.int .i64 y] (fun _ => True) (fun _ => False) hs hx rfl (fun _ hk => hk.elim) (fun _ _ => trivial) HO HB hbase (by omega)
  (fun v1 w1 h1 h2 h3 _ => h v1 w1 h1 h2 h3)
end
theorem carry {b : Nat} (hb : 2 ≤ b) (X Y c : Nat) : (c + X % b + Y % b) % b = (X + Y + c) % b ∧ (c + X % b + Y % b) / b = (X + Y + c) / b - X / b - Y / b := by
 have h7 := Nat.div_add_mod X b
 have h8 := Nat.div_add_mod Y b
 have e : X + Y + c = (c + X % b + Y % b) + b * (X / b + Y / b) := by rw [Nat.mul_add]; omega
 rw [e, Nat.add_mul_mod_self_left, Nat.add_mul_div_left _ _ (by omega)]
 generalize (c + X % b + Y % b) / b = k
 exact ⟨rfl, by omega⟩
theorem sum_div {B : Nat} (hB : 0 < B) (x y : Nat) : ∃ c, c ≤ 1 ∧ (x + y) / B = x / B + y / B + c := by
 have h1 := Nat.div_add_mod x B
 have h2 := Nat.div_add_mod y B
 have h3 := Nat.mod_lt x hB
 have h4 := Nat.mod_lt y hB
 refine ⟨(x % B + y % B) / B, ?_, ?_⟩
 ·have : (x % B + y % B) / B < 2 := Nat.div_lt_of_lt_mul (by omega)
  omega
 ·rw [show x + y = (x % B + y % B) + B * (x / B + y / B) by rw [Nat.mul_add]; omega, Nat.add_mul_div_left _ _ hB]
  omega
theorem plus_step {b : Nat} (hb : 2 ≤ b) (x y i : Nat) : ∃ c p q n : Nat, (x + y) / b ^ i - x / b ^ i - y / b ^ i = c ∧ c ≤ 1 ∧ x / b ^ i % b = p ∧ y / b ^ i % b = q ∧ c + p + q = n ∧ n % b = (x + y) / b ^ i % b ∧
  n / b = (x + y) / b ^ (i + 1) - x / b ^ (i + 1) - y / b ^ (i + 1) ∧ (x + y) / b ^ i = x / b ^ i + y / b ^ i + c := by
 obtain ⟨c, hc, hs⟩ := sum_div (show 0 < b ^ i from Nat.pow_pos (by omega)) x y
 obtain ⟨h1, h2⟩ := carry hb (x / b ^ i) (y / b ^ i) c
 have e : ∀ z, z / b ^ (i + 1) = z / b ^ i / b := fun z => by rw [Nat.pow_succ, Nat.div_div_eq_div_mul]
 exact ⟨c, _, _, _, by omega, hc, rfl, rfl, rfl, by rw [hs]; exact h1, by rw [e, e, e, hs]; exact h2, hs⟩
theorem digs_len_le {b : Nat} (hb : 2 ≤ b) {n k : Nat} (h : n < b ^ k) : (digs b n).length ≤ k := by
 rcases Nat.lt_or_ge k (digs b n).length with h1 | h1
 ·have := digs_small hb n k h1
  omega
 ·exact h1
theorem plus_len {x y n : Nat} (hx : (digs 10 x).length ≤ n) (hy : (digs 10 y).length ≤ n) : (digs 10 (x + y)).length ≤ n + 1 := by
 have h1 : x < 10 ^ n := Nat.lt_of_lt_of_le (digs_big (by decide) x) (Nat.pow_le_pow_right (by decide) hx)
 have h2 : y < 10 ^ n := Nat.lt_of_lt_of_le (digs_big (by decide) y) (Nat.pow_le_pow_right (by decide) hy)
 exact digs_len_le (by decide) (by rw [Nat.pow_succ]; omega)
theorem ref03_plus (v u : Value) (x y : Nat) (w : World) (h : Rd w v (digs 10 x)) (h2 : Rd w u (digs 10 y)) (hx : (digs 10 x).length ≤ 5000) (hy : (digs 10 y).length ≤ 5000) :
  Calls Tryz.prog 188 #[v, u] w fun e w' => ∃ v', e = .returned v' ∧ Rd w' v' (digs 10 (x + y)) ∧ Below w.heap.size w w' := by
 obtain ⟨A, c, rfl, hc, hr⟩ := h
 obtain ⟨B, d, rfl, hd, hs⟩ := h2
 go_enter Tryz.func188, Tryz.ntmps188
 go_wp2
 go_loopg [5, 6, 7] 10001 (fun k v5 v6 v7 w' => ∃ i : Nat, v7 = .int .i64 i ∧ k + i = 10001 ∧ v6 = .int .i64 (((x + y) / 10 ^ i - x / 10 ^ i - y / 10 ^ i : Nat) : Int) ∧ Own w' w.heap.size v5 (low 10 (x + y) i) ∧ (∀ j, j < i → 0 < (x + y) / 10 ^ j) ∧ Below w.heap.size w w')
 case atStart => exact ⟨0, rfl, rfl, by simp, Own.nil _ _, fun j hj => absurd hj (Nat.not_lt_zero _), Below.refl _ _⟩
 obtain ⟨i, rfl, hk, rfl, HO, hj, HB⟩ := hrel
 obtain ⟨c0, p, q, n, e0, hc0, ep, eq, en, en1, en2, es⟩ := plus_step (b := 10) (by decide) x y i
 have hr' := Kd.C_below hr HB
 have hs' := Kd.C_below hs HB
 have hlx := digs_lt (b := 10) (by decide) x i
 have hly := digs_lt (b := 10) (by decide) y i
 have hrx := digs_rd (b := 10) (by decide) x i
 have hry := digs_rd (b := 10) (by decide) y i
 have hlen := plus_len hx hy
 rw [e0]
 rw [ep] at hrx
 rw [eq] at hry
 have EN2 := Aside0.mk en2
 have HJ := Aside0.mk hj
 clear en2 hj
 have hp10 : p < 10 := by rw [← ep]; exact Nat.mod_lt _ (by decide)
 have hq10 : q < 10 := by rw [← eq]; exact Nat.mod_lt _ (by decide)
 have hS : Aside0 ((x + y) / 10 ^ i % 10 = n % 10) := ⟨en1.symm⟩
 have hS0 : (x + y) / 10 ^ i = 0 → Aside0 ((x + y) / 10 ^ i = 0) := fun h => ⟨h⟩
 have hS1 : (x + y) / 10 ^ i ≠ 0 → Aside0 (0 < (x + y) / 10 ^ i) := fun h => ⟨Nat.pos_of_ne_zero h⟩
 generalize x / 10 ^ i = X at hlx ep es e0
 generalize y / 10 ^ i = Y at hly eq es e0
 generalize hSS : (x + y) / 10 ^ i = S at es e0 en1 hS0 hS1
 have HL : Aside0 (∀ z : Int, z = ((n % 10 : Nat) : Int) → low 10 (x + y) i ++ [z] = low 10 (x + y) (i + 1)) := ⟨fun z hz => by rw [low_succ, hz, hS.out]⟩
 have hgk : S ≠ 0 → 1 ≤ gk := by
  intro h
  have h1 := (digs_lt (b := 10) (by decide) (x + y) i).2 (by rw [hSS]; exact Nat.pos_of_ne_zero h)
  omega
 by_cases h0 : S = 0
 ·have hb1 : ¬ ((i : Int) < ((digs 10 x).length : Int)) := by omega
  have hb2 : ¬ ((i : Int) < ((digs 10 y).length : Int)) := by omega
  obtain rfl : c0 = 0 := by omega
  rw [low_end (by decide) _ _ (by omega) HJ.out] at HO
  go_wp2
  go_ret
  exact ⟨_, rfl, HO.rd, HB⟩
 ·have HS1 : Aside0 (0 < (x + y) / 10 ^ i) := ⟨by rw [hSS]; exact Nat.pos_of_ne_zero h0⟩
  have hgk1 := hgk h0
  clear hgk
  by_cases hX : (i : Int) < ((digs 10 x).length : Int)
  ·obtain ⟨ad, rfl, hx1⟩ := Kd.at_int hr' (i : Int) (by omega) hX
   rw [Int.toNat_natCast, hrx] at hx1
   by_cases hY : (i : Int) < ((digs 10 y).length : Int)
   ·obtain ⟨bd, rfl, hy1⟩ := Kd.at_int hs' (i : Int) (by omega) hY
    rw [Int.toNat_natCast, hry] at hy1
    clear hSS hS0 hS1 e0 ep eq es en1 hlx hly hrx hry
    go_wp2_with (at_builtin; refine app1 (w0 := w) w.heap.size (.tmp 46) (.tmp 49) 165 rfl rfl Tryz.underlying165 _ _ _ rfl rfl HO HB HB.size (by rw [low_len]; omega) ?_; intro v1 w1 ho hb hg)
    rw [HL.out _ (by omega)] at ho
    clear hg
    go_roundg (gk - 1)
    case measure => omega
    case rel => exact ⟨i + 1, by go_num, by omega, by rw [← EN2.out]; go_num, ho, fun j hj => by by_cases hji : j = i; (· subst hji; exact HS1.out); (· exact HJ.out j (by omega)), hb⟩
   ·obtain rfl : q = 0 := by omega
    clear hSS hS0 hS1 e0 ep eq es en1 hlx hly hrx hry
    go_wp2_with (at_builtin; refine app1 (w0 := w) w.heap.size (.tmp 46) (.tmp 49) 165 rfl rfl Tryz.underlying165 _ _ _ rfl rfl HO HB HB.size (by rw [low_len]; omega) ?_; intro v1 w1 ho hb hg)
    rw [HL.out _ (by omega)] at ho
    clear hg
    go_roundg (gk - 1)
    case measure => omega
    case rel => exact ⟨i + 1, by go_num, by omega, by rw [← EN2.out]; go_num, ho, fun j hj => by by_cases hji : j = i; (· subst hji; exact HS1.out); (· exact HJ.out j (by omega)), hb⟩
  ·obtain rfl : p = 0 := by omega
   by_cases hY : (i : Int) < ((digs 10 y).length : Int)
   ·obtain ⟨bd, rfl, hy1⟩ := Kd.at_int hs' (i : Int) (by omega) hY
    rw [Int.toNat_natCast, hry] at hy1
    clear hSS hS0 hS1 e0 ep eq es en1 hlx hly hrx hry
    go_wp2_with (at_builtin; refine app1 (w0 := w) w.heap.size (.tmp 46) (.tmp 49) 165 rfl rfl Tryz.underlying165 _ _ _ rfl rfl HO HB HB.size (by rw [low_len]; omega) ?_; intro v1 w1 ho hb hg)
    rw [HL.out _ (by omega)] at ho
    clear hg
    go_roundg (gk - 1)
    case measure => omega
    case rel => exact ⟨i + 1, by go_num, by omega, by rw [← EN2.out]; go_num, ho, fun j hj => by by_cases hji : j = i; (· subst hji; exact HS1.out); (· exact HJ.out j (by omega)), hb⟩
   ·obtain rfl : q = 0 := by omega
    obtain rfl : c0 = 1 := by omega
    clear hSS hS0 hS1 e0 ep eq es en1 hlx hly hrx hry
    go_wp2_with (at_builtin; refine app1 (w0 := w) w.heap.size (.tmp 46) (.tmp 49) 165 rfl rfl Tryz.underlying165 _ _ _ rfl rfl HO HB HB.size (by rw [low_len]; omega) ?_; intro v1 w1 ho hb hg)
    rw [HL.out _ (by omega)] at ho
    clear hg
    go_roundg (gk - 1)
    case measure => omega
    case rel => exact ⟨i + 1, by go_num, by omega, by rw [← EN2.out]; go_num, ho, fun j hj => by by_cases hji : j = i; (· subst hji; exact HS1.out); (· exact HJ.out j (by omega)), hb⟩
end Go.Proofs.YtociicfjhgfgpaaGreatDoor
namespace Go.Proofs.YtociicfjhgfgpaaGreatDoor
open Go.RowKit Go.Proofs.YtociicfjhgfgpaaGreatDoorW.PrintWords
theorem Own.base {w : World} {base : Nat} {v : Value} {xs : List Int} (h : Own w base v xs) : ∀ k, v.ownBlock = some k → base ≤ k := Kd.R_base h
theorem minus_step {b : Nat} (hb : 2 ≤ b) (x y i : Nat) (h : y ≤ x) : ∃ c p q r c' : Nat, x / b ^ i - y / b ^ i - (x - y) / b ^ i = c ∧ c ≤ 1 ∧ x / b ^ i % b = p ∧ y / b ^ i % b = q ∧ (x - y) / b ^ i % b = r ∧ p < b ∧ q < b ∧ r < b ∧
  x / b ^ (i + 1) - y / b ^ (i + 1) - (x - y) / b ^ (i + 1) = c' ∧ c' ≤ 1 ∧ (p : Int) - c - q = r - b * c' := by
 obtain ⟨c, hc, hs⟩ := sum_div (show 0 < b ^ i from Nat.pow_pos (by omega)) (x - y) y
 obtain ⟨c', hc', hs'⟩ := sum_div (show 0 < b ^ (i + 1) from Nat.pow_pos (by omega)) (x - y) y
 rw [show x - y + y = x by omega] at hs hs'
 have e : ∀ z, z / b ^ (i + 1) = z / b ^ i / b := fun z => by rw [Nat.pow_succ, Nat.div_div_eq_div_mul]
 refine ⟨c, _, _, _, c', by omega, hc, rfl, rfl, rfl, Nat.mod_lt _ (by omega), Nat.mod_lt _ (by omega), Nat.mod_lt _ (by omega), by omega, hc', ?_⟩
 rw [e, e, e] at hs'
 have h1 := Nat.div_add_mod (x / b ^ i) b
 have h2 := Nat.div_add_mod (y / b ^ i) b
 have h3 := Nat.div_add_mod ((x - y) / b ^ i) b
 rw [hs'] at h1
 rw [Nat.mul_add, Nat.mul_add] at h1
 generalize b * ((x - y) / b ^ i / b) = u at *
 generalize b * (y / b ^ i / b) = v at *
 have e3 : (b : Int) * (c' : Int) = ((b * c' : Nat) : Int) := by push_cast; rfl
 rw [e3]
 omega
theorem ref03_minus (v u : Value) (x y : Nat) (w : World) (h : Rd w v (digs 10 x)) (h2 : Rd w u (digs 10 y)) (hx : (digs 10 x).length ≤ 5000) (hyx : y ≤ x) :
  Calls Tryz.prog 189 #[v, u] w fun e w' => ∃ v', e = .returned v' ∧ Rd w' v' (digs 10 (x - y)) ∧ Below w.heap.size w w' ∧ (∀ k, v'.ownBlock = some k → w.heap.size ≤ k) := by
 obtain ⟨A, c, rfl, hc, hr⟩ := h
 obtain ⟨B, d, rfl, hd, hs⟩ := h2
 go_enter Tryz.func189, Tryz.ntmps189
 go_wp2
 go_loopg [5, 6, 7] (digs 10 x).length (fun k v5 v6 v7 w' => ∃ i : Nat, v7 = .int .i64 i ∧ k + i = (digs 10 x).length ∧ v6 = .int .i64 ((x / 10 ^ i - y / 10 ^ i - (x - y) / 10 ^ i : Nat) : Int) ∧ Own w' w.heap.size v5 (low 10 (x - y) i) ∧ Below w.heap.size w w')
 case atStart => exact ⟨0, rfl, rfl, by simp, Own.nil _ _, Below.refl _ _⟩
 obtain ⟨i, rfl, hk, rfl, HO, HB⟩ := hrel
 have hr' := Kd.C_below hr HB
 have hs' := Kd.C_below hs HB
 by_cases h0 : i < (digs 10 x).length
 ·obtain ⟨c0, p, q, r, c1, e0, hc0, ep, eq, er, hp, hq, hrr, e1, hc1, es⟩ := minus_step (b := 10) (by decide) x y i hyx
  have hrx := digs_rd (b := 10) (by decide) x i
  have hry := digs_rd (b := 10) (by decide) y i
  have hly := digs_lt (b := 10) (by decide) y i
  rw [e0]
  rw [ep] at hrx
  rw [eq] at hry
  have EN2 := Aside0.mk e1
  have HL : Aside0 (∀ z : Int, z = (r : Int) → low 10 (x - y) i ++ [z] = low 10 (x - y) (i + 1)) := ⟨fun z hz => by rw [low_succ, hz, er]⟩
  have hX : (i : Int) < ((digs 10 x).length : Int) := by omega
  obtain ⟨ad, rfl, hx1⟩ := Kd.at_int hr' (i : Int) (by omega) hX
  rw [Int.toNat_natCast, hrx] at hx1
  have hY0 : ¬ i < (digs 10 y).length → q = 0 := by
   intro hn
   rw [hly] at hn
   rw [← eq, Nat.eq_zero_of_not_pos hn]
  clear e1 e0 ep eq er hrx hly
  by_cases hY : (i : Int) < ((digs 10 y).length : Int)
  ·obtain ⟨bd, rfl, hy1⟩ := Kd.at_int hs' (i : Int) (by omega) hY
   rw [Int.toNat_natCast, hry] at hy1
   clear hry hY0
   have ES := Aside0.mk es
   by_cases hneg : (p : Int) - c0 - q < 0
   ·obtain rfl : c1 = 1 := by omega
    clear es
    go_wp2_with (at_builtin; refine app1 (w0 := w) w.heap.size (.tmp 35) (.tmp 37) 165 rfl rfl Tryz.underlying165 _ _ _ rfl rfl HO HB HB.size (by rw [low_len]; omega) ?_; intro v1 w1 ho hb hg)
    rw [HL.out _ (by have := ES.out; omega)] at ho
    clear hg
    go_roundg (gk - 1)
    case measure => omega
    case rel => exact ⟨i + 1, by go_num, by omega, by rw [EN2.out]; go_num, ho, hb⟩
   ·obtain rfl : c1 = 0 := by omega
    clear es
    go_wp2_with (at_builtin; refine app1 (w0 := w) w.heap.size (.tmp 35) (.tmp 37) 165 rfl rfl Tryz.underlying165 _ _ _ rfl rfl HO HB HB.size (by rw [low_len]; omega) ?_; intro v1 w1 ho hb hg)
    rw [HL.out _ (by have := ES.out; omega)] at ho
    clear hg
    go_roundg (gk - 1)
    case measure => omega
    case rel => exact ⟨i + 1, by go_num, by omega, by rw [EN2.out]; go_num, ho, hb⟩
  ·obtain rfl : q = 0 := hY0 (by omega)
   clear hry hY0
   have ES := Aside0.mk es
   by_cases hneg : (p : Int) - c0 < 0
   ·obtain rfl : c1 = 1 := by omega
    clear es
    go_wp2_with (at_builtin; refine app1 (w0 := w) w.heap.size (.tmp 35) (.tmp 37) 165 rfl rfl Tryz.underlying165 _ _ _ rfl rfl HO HB HB.size (by rw [low_len]; omega) ?_; intro v1 w1 ho hb hg)
    rw [HL.out _ (by have := ES.out; omega)] at ho
    clear hg
    go_roundg (gk - 1)
    case measure => omega
    case rel => exact ⟨i + 1, by go_num, by omega, by rw [EN2.out]; go_num, ho, hb⟩
   ·obtain rfl : c1 = 0 := by omega
    clear es
    go_wp2_with (at_builtin; refine app1 (w0 := w) w.heap.size (.tmp 35) (.tmp 37) 165 rfl rfl Tryz.underlying165 _ _ _ rfl rfl HO HB HB.size (by rw [low_len]; omega) ?_; intro v1 w1 ho hb hg)
    rw [HL.out _ (by have := ES.out; omega)] at ho
    clear hg
    go_roundg (gk - 1)
    case measure => omega
    case rel => exact ⟨i + 1, by go_num, by omega, by rw [EN2.out]; go_num, ho, hb⟩
 ·have hX : ¬ (i : Int) < ((digs 10 x).length : Int) := by omega
  have hlow : low 10 (x - y) i = low 10 (x - y) (digs 10 x).length := by rw [show i = (digs 10 x).length by omega]
  have hT : trimL (low 10 (x - y) i) = digs 10 (x - y) := by
   have := digs_big (b := 10) (by decide) x
   rw [hlow, trim_low (by decide), Nat.mod_eq_of_lt (by omega)]
  have HOr := HO.rd
  clear hlow
  have HT := Aside0.mk hT
  clear hT
  go_wp2_with (go_at_call 190; refine (ref03_trim _ _ _ HOr).mono ?_; rintro e w2 ⟨v2, rfl, hv2, hb2, hk2⟩)
  go_ret
  exact ⟨_, rfl, by rw [HT.out] at hv2; exact hv2, bZs HB hb2, fun k hk => HO.base k (by rw [← hk2]; exact hk)⟩
theorem val_set (b : Nat) : ∀ (l : List Int) (j : Nat) (d : Int), j < l.length → val b (l.set j d) + b ^ j * (l.getD j 0).toNat = val b l + b ^ j * d.toNat
 | [], j, d, h => by simp at h
 | a :: l, 0, d, _ => by simp [val]; omega
 | a :: l, j + 1, d, h => by
  have ih := val_set b l j d (by simpa using h)
  show a.toNat + b * val b (l.set j d) + b ^ (j + 1) * (l.getD j 0).toNat = a.toNat + b * val b l + b ^ (j + 1) * d.toNat
  rw [Nat.pow_succ, Nat.mul_comm (b ^ j) b, Nat.mul_assoc, Nat.mul_assoc]
  have e : b * (val b (l.set j d) + b ^ j * (l.getD j 0).toNat) = b * (val b l + b ^ j * d.toNat) := by rw [ih]
  rw [Nat.mul_add, Nat.mul_add] at e
  omega
theorem dig_set {b : Nat} {l : List Int} {j : Nat} {d : Int} (h : Dig b l) (hd : 0 ≤ d ∧ d < b) : Dig b (l.set j d) := by
 intro x hx
 rcases List.mem_or_eq_of_mem_set hx with hx | rfl
 ·exact h x hx
 ·exact hd
theorem dig_rd {b : Nat} (hb : 1 ≤ b) {l : List Int} (h : Dig b l) (j : Int) : 0 ≤ rd l j ∧ rd l j < b := by
 unfold rd
 rw [List.getD_eq_getElem?_getD]
 by_cases hj : j.toNat < l.length
 ·rw [List.getElem?_eq_getElem hj]
  exact h _ (List.getElem_mem hj)
 ·rw [List.getElem?_eq_none (by omega)]
  simp
  omega
section
variable {ops : Array Oper} {rest : List Oper} {o : Oper} {a : Act} {Q : Exit → Act → World → Prop}
theorem mk0 {w0 W : World} (base : Nat) (x y : Operand) (t : TypeId) (hgd : o.guard = none) {N : Tmp} (hd : o.dst = some N) (ho : o.op = .makeSlice t x y) (n : Int) (hx : a.eval x = .int .i64 n) (hy : a.eval y = .int .i64 n)
  (ht : Tryz.prog.underlying t = some (.slice 3)) (h0 : 0 ≤ n) (hl : n ≤ 1000000000) (HB : Below base w0 W) (hbase : base ≤ W.heap.size)
  (h : ∀ v1 w1, Own w1 base v1 (List.replicate n.toNat 0) → Below base w0 w1 → wpList Tryz.prog ops Q rest (a.put o.dst v1) w1) : wpList Tryz.prog ops Q (o :: rest) a W :=
 Kd.R_make (Kd.int .i64) base 3 hgd hd t x y ho n hx hy ht (.int .i64 0) 8 info3 rfl (by decide) (by omega) 0 (ok := fun _ => True) (okp := fun _ => True) rfl (fun _ hk => hk) trivial h0 (by omega) HB hbase
  (fun v1 w1 h1 h2 _ _ => h v1 w1 h1 h2)
end
theorem dig_zeros (n : Nat) : Dig 10 (List.replicate n 0) := by
 intro d hd
 rw [(List.mem_replicate.1 hd).2]
 omega
theorem val_zeros (b : Nat) : ∀ n, val b (List.replicate n 0) = 0
 | 0 => rfl
 | n + 1 => by
  rw [List.replicate_succ]
  show (0 : Int).toNat + b * val b (List.replicate n 0) = 0
  rw [val_zeros b n]
  simp
end Go.Proofs.YtociicfjhgfgpaaGreatDoor
namespace Go.Proofs.YtociicfjhgfgpaaGreatDoor
open Go.RowKit Go.Proofs.YtociicfjhgfgpaaGreatDoorW.PrintWords
theorem own_of_cells {w : World} {base : Nat} {v : Value} {xs : List Int} (h : w.ownsRow base 3 1 v xs.length (nums .i64 xs)) : Own w base v xs := Kd.R_of_own h (fun _ _ => trivial)
theorem own_lit1 (W : World) (base : Nat) (y : Int) (hb : base ≤ W.heap.size) : Own (W.alloc (.cells #[.int .i64 y] 3)) base (.slice (some ⟨W.heap.size, 0, none⟩) 1 1) [y] := by
 have h := World.ownsRow_lit (base := base) (e := 3) (size := 1) W #[.int .i64 y] 1 hb (by unfold maxLen; decide) (by simp)
 exact own_of_cells h
section
variable {ops : Array Oper} {rest : List Oper} {o : Oper} {a : Act} {Q : Exit → Act → World → Prop}
theorem appN {w0 W : World} (base : Nat) (s x : Operand) (t : TypeId) (hgd : o.guard = none) (ho : o.op = .call { callee := .builtin .append, args := #[s, x], argTypes := #[t, t] })
  (ht : Tryz.prog.underlying t = some (.slice 3)) (v : Value) (xs ys : List Int) (A : Option Addr) (m c : Nat) (hs : a.eval s = v) (hx : a.eval x = .slice A m c)
  (HO : Own W base v xs) (HR : (Kd.int .i64).C W A m ys) (HB : Below base w0 W) (hbase : base ≤ W.heap.size) (hl : xs.length + m < 17592186044415)
  (h : ∀ v1 w1, Own w1 base v1 (xs ++ ys) → Below base w0 w1 → W.grownBy w1 v.ownBlock → wpList Tryz.prog ops Q rest (a.put o.dst v1) w1) :
  wpList Tryz.prog ops Q (o :: rest) a W :=
 Kd.R_append_rows (Kd.int .i64) base hgd s x t 3 (.int .i64 0) 8 ho ht info3 rfl (by decide) (by omega) v xs ys A m c (fun _ => True) (fun _ => False) hs hx HO HR (fun _ _ hk => hk) (fun _ hk => hk.elim) (fun _ _ => trivial) HB hbase (by omega)
  (fun v1 w1 h1 h2 h3 _ => h v1 w1 h1 h2 h3)
end
theorem div_step (x y m : Nat) (hy : 0 < y) : x / 10 ^ m / y = 10 * (x / 10 ^ (m + 1) / y) + (x / 10 ^ m % 10 + 10 * (x / 10 ^ (m + 1) % y)) / y ∧ x / 10 ^ m % y = (x / 10 ^ m % 10 + 10 * (x / 10 ^ (m + 1) % y)) % y := by
 have e : x / 10 ^ (m + 1) = x / 10 ^ m / 10 := by rw [Nat.pow_succ, Nat.div_div_eq_div_mul]
 rw [e]
 generalize x / 10 ^ m = z
 have h1 := Nat.div_add_mod z 10
 have h2 := Nat.div_add_mod (z / 10) y
 have e2 : z = (z % 10 + 10 * (z / 10 % y)) + y * (10 * (z / 10 / y)) := by
  have h3 : 10 * (y * (z / 10 / y) + z / 10 % y) = 10 * (z / 10) := by rw [h2]
  have h4 : y * (10 * (z / 10 / y)) = 10 * (y * (z / 10 / y)) := by ac_rfl
  rw [Nat.mul_add] at h3
  omega
 constructor
 ·conv => lhs; rw [e2, Nat.add_mul_div_left _ _ hy]
  omega
 ·conv => lhs; rw [e2, Nat.add_mul_mod_self_left]
theorem set_same : ∀ (l : List Int) (m : Nat), l.getD m 0 = 0 → l.set m 0 = l
 | [], _, _ => rfl
 | a :: l, 0, h => by
  have : a = 0 := h
  rw [this]
  rfl
 | a :: l, m + 1, h => by
  show a :: l.set m 0 = a :: l
  rw [set_same l m h]
theorem rd_set_same (l : List Int) (m : Nat) (v : Int) (h : m < l.length) : rdOf 0 (l.set m v) (m : Int) = v := by
 show rd (l.set m v) (m : Int) = v
 unfold rd
 rw [Int.toNat_natCast, List.getD_eq_getElem?_getD, List.getElem?_set_self h]
 rfl
theorem Own.lt {w : World} {base : Nat} {v : Value} {xs : List Int} (h : Own w base v xs) : ∀ k, v.ownBlock = some k → k < w.heap.size := Kd.R_lt h
theorem Rd.far {w : World} {v : Value} {xs : List Int} {p : Addr} (h : Rd w v xs) (hp : ∀ k, v.ownBlock = some k → p.block < k) (u : Value) : Rd (w.setCell p u) v xs := by
 obtain ⟨A, c, rfl, hc, h1, h2, h3⟩ := h
 refine ⟨A, c, rfl, hc, h1, h2, fun hq => ?_⟩
 obtain ⟨ad, rfl, hh⟩ := h3 hq
 have hne : ad.block ≠ p.block := by have := hp ad.block rfl; omega
 refine ⟨ad, rfl, fun j x hj => ?_⟩
 obtain ⟨cs, hl, hk, hcell⟩ := hh j x hj
 refine ⟨cs, hl, hk, fun i z hz => ?_⟩
 rw [World.cell?_of_block (w := w) (a := ad.add (j * (Kd.int .i64).sz + i))]
 ·exact hcell i z hz
 ·refine Below.heap_setCell w p u _ ?_
  rw [show (ad.add (j * (Kd.int .i64).sz + i)).block = ad.block by unfold Addr.add; split <;> rfl]
  exact hne
theorem trim_cons (d r : Nat) (hd : d < 10) : trimL (((d : Nat) : Int) :: digs 10 r) = digs 10 (d + 10 * r) := by
 have h : Dig 10 (((d : Nat) : Int) :: digs 10 r) := by
  intro z hz
  rcases List.mem_cons.1 hz with rfl | hz
  ·omega
  ·exact digs_dig (by decide) r z hz
 rw [trimL_val (by decide) _ h]
 show digs 10 (((d : Nat) : Int).toNat + 10 * val 10 (digs 10 r)) = _
 rw [val_digs (by decide), Int.toNat_natCast]
theorem ref03_divided (v u : Value) (x y : Nat) (w : World) (h : Rd w v (digs 10 x)) (h2 : Rd w u (digs 10 y)) (hx : (digs 10 x).length ≤ 4000) (hy : (digs 10 y).length ≤ 4000) (hy0 : 0 < y) :
  Calls Tryz.prog 143 #[v, u] w fun e w' => ∃ v1 v2, e = .returned (.tuple #[v1, v2]) ∧ Rd w' v1 (digs 10 (x / y)) ∧ Rd w' v2 (digs 10 (x % y)) ∧ Below w.heap.size w w' := by
 obtain ⟨A, c, rfl, hc, hr⟩ := h
 have h2' := h2
 obtain ⟨B, d, rfl, hd, hs⟩ := h2
 go_enter Tryz.func143, Tryz.ntmps143
 go_wp2_with (at_make; refine mk0 (w0 := w) w.heap.size _ _ 165 rfl (N := 11) rfl rfl ((digs 10 x).length : Int) (by go_num) (by go_num) Tryz.underlying165 (by omega) (by omega) (Below.refl _ _) (Nat.le_refl _) ?_; intro v1 w1 ho hb)
 have hw0 : wrap64 (((digs 10 x).length : Int) - 1) = ((digs 10 x).length : Int) - 1 := by unfold wrap64; omega
 go_loopg [7, 8] (digs 10 x).length (fun k v7 v8 w' => v8 = .int .i64 ((k : Int) - 1) ∧ k ≤ (digs 10 x).length ∧ Rd w' v7 (digs 10 (x / 10 ^ k % y)) ∧ (∃ L, Own w' w.heap.size v1 L ∧ L.length = (digs 10 x).length ∧ Dig 10 L ∧ (∀ j, j < k → L.getD j 0 = 0) ∧ val 10 L = 10 ^ k * (x / 10 ^ k / y)) ∧ Below w.heap.size w w')
 case atStart =>
  have hxz : x / 10 ^ (digs 10 x).length = 0 := Nat.div_eq_of_lt (digs_big (by decide) x)
  refine ⟨by go_num, Nat.le_refl _, ?_, ⟨_, ho, by rw [List.length_replicate, Int.toNat_natCast], dig_zeros _, ?_, ?_⟩, hb⟩
  ·rw [hxz, Nat.zero_mod, digs_zero]
   exact (Own.nil w1 w.heap.size).rd
  ·intro j hj
   rw [List.getD_eq_getElem?_getD, List.getElem?_replicate]
   split <;> rfl
  ·rw [val_zeros, hxz, Nat.zero_div, Nat.mul_zero]
 obtain ⟨rfl, hk, HR, ⟨L, HO, hL, hD, hZ, hV⟩, HB⟩ := hrel
 clear hw0
 cases gk with
 | zero =>
  have HT : Aside0 (trimL L = digs 10 (x / y)) := ⟨by rw [trimL_val (by decide) _ hD, hV]; simp⟩
  have HR0 : Aside0 (digs 10 (x / 10 ^ 0 % y) = digs 10 (x % y)) := ⟨by simp⟩
  have HRR := Aside0.mk HR
  have HOr := HO.rd
  clear hV hD hL hZ HR
  go_wp2_with (go_at_call 190; refine (ref03_trim _ _ _ HOr).mono ?_; rintro e w2 ⟨v2, rfl, hv2, hb2, _⟩)
  go_ret2
  refine ⟨_, _, rfl, by rw [HT.out] at hv2; exact hv2, ?_, bZs HB hb2⟩
  have := HRR.out.below hb2
  rw [HR0.out] at this
  exact this
 | succ m =>
  obtain ⟨ad, rfl, hxa⟩ := Kd.at_int (Kd.C_below hr HB) (m : Int) (by omega) (by omega)
  obtain ⟨xm, exm⟩ : ∃ xm, x / 10 ^ m % 10 = xm := ⟨_, rfl⟩
  have hxm : xm < 10 := by rw [← exm]; exact Nat.mod_lt _ (by decide)
  rw [Int.toNat_natCast, digs_rd (by decide), exm] at hxa
  obtain ⟨r0, er0⟩ : ∃ r0, x / 10 ^ (m + 1) % y = r0 := ⟨_, rfl⟩
  have hr0 : r0 < y := by rw [← er0]; exact Nat.mod_lt _ hy0
  rw [er0] at HR
  obtain ⟨D, e, rfl, he, hrr⟩ := HR
  rw [show ((m + 1 : Nat) : Int) - 1 = (m : Int) by omega]
  have hwm : wrap64 ((m : Int) - 1) = (m : Int) - 1 := by unfold wrap64; omega
  have hmi : (m : Int) < ((digs 10 x).length : Int) := by omega
  have HV := Aside0.mk hV
  have HZ := Aside0.mk hZ
  have HL := Aside0.mk hL
  have HTC := Aside0.mk (trim_cons xm r0 hxm)
  have EXM := Aside0.mk exm
  have ER00 := Aside0.mk er0
  clear hV hZ hL exm er0
  have hrl : (digs 10 r0).length ≤ 4000 := Nat.le_trans (digs_len_le (by decide) (Nat.lt_trans hr0 (digs_big (b := 10) (by decide) y))) hy
  go_wp2_with (first | (at_builtin; refine appN (w0 := wr) wr.heap.size _ _ 165 rfl rfl Tryz.underlying165 _ _ _ _ _ _ rfl rfl (own_lit1 wr wr.heap.size xm (Nat.le_refl _)) (Kd.C_alloc hrr _) (bZa (Below.refl _ _) _) (by simp) (by simp; omega) ?_; intro v3 w3 ho3 hb3 hg3) | (go_at_call 190; refine (ref03_trim _ _ _ ho3.rd).mono ?_; rintro e w2 ⟨v2, rfl, hv2, hb2, _⟩))
  have hv2' : Rd w2 v2 (digs 10 (xm + 10 * r0)) := by rw [← HTC.out]; exact hv2
  have HB2 : Below w.heap.size w w2 := bZs (bZs HB hb3) hb2
  have HO2 : Own w2 w.heap.size v1 L := (HO.below hb3).below hb2
  clear hv2 hg3 ho3 hb3 hb2 HO HB hrr
  obtain ⟨R0, eR0⟩ : ∃ R0, xm + 10 * r0 = R0 := ⟨_, rfl⟩
  have hR0 : R0 / y < 10 := Nat.div_lt_of_lt_mul (by omega)
  rw [eR0] at hv2'
  have ER0 := Aside0.mk eR0
  clear eR0
  obtain ⟨g, cap, rfl, hg0, hg1, _⟩ := Kd.R_form HO2 (by have := HL.out; omega)
  go_loopg [7] (R0 / y) (fun kk v7 w' => ∃ t : Nat, kk + t = R0 / y ∧ Rd w' v7 (digs 10 (R0 - t * y)) ∧ Own w' w.heap.size (.slice (some ⟨g, 0, none⟩) L.length cap) (L.set m (t : Int)) ∧ Below w.heap.size w w')
  case atStart => exact ⟨0, rfl, by rw [Nat.zero_mul]; exact hv2', by rw [Int.ofNat_zero, set_same _ _ (HZ.out m (Nat.lt_succ_self m))]; exact HO2, HB2⟩
  clear hv2' HO2 HB2
  obtain ⟨t, ht, HR, HO, HB⟩ := hrel
  obtain ⟨r1, er1⟩ : ∃ r1, R0 - t * y = r1 := ⟨_, rfl⟩
  have htR : t * y ≤ R0 := by
   have h1 := Nat.div_mul_le_self R0 y
   have h2 : t * y ≤ R0 / y * y := Nat.mul_le_mul_right _ (by omega)
   omega
  rw [er1] at HR
  have hyB := h2'.below HB
  have hord := ordL_digs (b := 10) (by decide) r1 y
  by_cases hlt : r1 < y
  ·have hq : t = R0 / y := by
    have h1 : R0 = r1 + y * t := by rw [Nat.mul_comm y t]; omega
    rw [h1, Nat.add_mul_div_left _ _ hy0, Nat.div_eq_of_lt hlt]
    omega
   have hrq : R0 % y = r1 := by
    have h1 : R0 = r1 + y * t := by rw [Nat.mul_comm y t]; omega
    rw [h1, Nat.add_mul_mod_self_left, Nat.mod_eq_of_lt hlt]
   have FIN : Aside0 (x / 10 ^ m % y = r1 ∧ Dig 10 (L.set m (t : Int)) ∧ (∀ j, j < m → (L.set m (t : Int)).getD j 0 = 0) ∧ val 10 (L.set m (t : Int)) = 10 ^ m * (x / 10 ^ m / y)) := by
    obtain ⟨d1, d2⟩ := div_step x y m hy0
    rw [EXM.out, ER00.out, ER0.out] at d2
    rw [EXM.out, ER00.out, ER0.out, ← hq] at d1
    refine ⟨by rw [d2, hrq], dig_set hD (by omega), fun j hj => ?_, ?_⟩
    ·rw [List.getD_eq_getElem?_getD, List.getElem?_set_ne (by omega), ← List.getD_eq_getElem?_getD]
     exact HZ.out j (by omega)
    ·have h1 := val_set 10 L m (t : Int) (by have := HL.out; omega)
     rw [HZ.out m (by omega), HV.out, Int.toNat_natCast] at h1
     rw [d1, Nat.mul_add]
     rw [Nat.pow_succ] at h1
     have h2 : 10 ^ m * 10 * (x / (10 ^ m * 10) / y) = 10 ^ m * (10 * (x / 10 ^ (m + 1) / y)) := by rw [Nat.pow_succ, Nat.mul_assoc]
     rw [h2] at h1
     simpa using h1
   unfold cmpN at hord
   rw [if_pos hlt] at hord
   clear hq hrq er1
   go_wp2_with (go_at_call 142; refine (ref03_order _ _ _ _ _ HR hyB).mono ?_; rintro e w2 ⟨rfl, hb2⟩; rw [hord])
   obtain ⟨F1, F2, F3, F4⟩ := FIN.out
   go_roundg m
   case measure => omega
   case rel => exact ⟨by go_num, by omega, by rw [F1]; exact HR.below hb2, ⟨_, HO.below hb2, by rw [List.length_set]; exact HL.out, F2, F3, F4⟩, bZs HB hb2⟩
  ·have hge : y ≤ r1 := by omega
   have hrl1 : (digs 10 r1).length ≤ 5000 := by
    have h1 := digs_big (b := 10) (by decide) y
    have h2 := ER0.out
    have h3 : r1 < 10 ^ ((digs 10 y).length + 1) := by rw [Nat.pow_succ]; omega
    have := digs_len_le (by decide) h3
    omega
   have hnn : (ordL (digs 10 r1) (digs 10 y)) ≥ 0 := by
    rw [hord]
    unfold cmpN
    rw [if_neg hlt]
    split <;> decide
   clear hord
   have hmL : m < L.length := by have := HL.out; omega
   have hmLi : (m : Int) < (L.length : Int) := by omega
   have htq : t < R0 / y := by
    rcases Nat.lt_or_ge t (R0 / y) with h | h
    ·exact h
    ·exfalso
     have h1 := Nat.div_add_mod R0 y
     have h2 := Nat.mod_lt R0 hy0
     have h3 : t = R0 / y := by omega
     rw [h3, Nat.mul_comm] at er1
     omega
   have ht9 : t < 9 := by omega
   have _unused : True := by trivial
   have ht9' : t < 9 := by
    rcases Nat.lt_or_ge t (R0 / y) with h | h
    ·omega
    ·exfalso
     have h1 := Nat.div_add_mod R0 y
     have h2 := Nat.mod_lt R0 hy0
     have h3 : t = R0 / y := by omega
     rw [h3, Nat.mul_comm] at er1
     omega
   have RS := Aside0.mk (rd_set_same L m (t : Int) hmL)
   have ER1 := Aside0.mk er1
   have HTR := Aside0.mk htR
   clear er1 htR
   go_wp2_with (first | (go_at_call 142; refine (ref03_order _ _ _ _ _ HR hyB).mono ?_; rintro e w2 ⟨rfl, hb2⟩) | (go_at_call 189; refine (ref03_minus _ _ _ _ _ (HR.below hb2) (hyB.below hb2) hrl1 hge).mono ?_; rintro e w3 ⟨v3, rfl, hv3, hb3, hk3⟩; have HO3 := (HO.below hb2).below hb3; obtain ⟨hx1, hf1⟩ := Kd.R_celln 0 HO3 (m : Int) (by omega) hmLi; rw [RS.out] at hx1; rw [Int.toNat_natCast] at hx1 hf1))
   go_roundg (gk - 1)
   case measure => omega
   case rel =>
    refine ⟨t + 1, by omega, ?_, ?_, bZe (bZs (bZs HB hb2) hb3) hg0⟩
    ·rw [show R0 - (t + 1) * y = r1 - y by rw [Nat.add_mul]; have := ER1.out; omega]
     exact hv3.far (fun k hk => by have h1 := hk3 k hk; have h2 := hb2.size; have h3 := HO.lt g rfl; show g < k; omega) _
    ·have := Kd.R_putn HO3 (m : Int) ((t : Int) + 1)
     rw [Int.toNat_natCast, List.set_set] at this
     exact this
end Go.Proofs.YtociicfjhgfgpaaGreatDoor

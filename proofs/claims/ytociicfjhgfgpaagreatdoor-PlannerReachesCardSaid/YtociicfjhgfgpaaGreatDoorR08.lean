/- workpieceref03: text: the walk. The text of a whole number; whether a string is one: plain facts. Decimal numerals in groups of four digits: plain facts. -/
import Derived.Test.YtociicfjhgfgpaaGreatDoorR03
import Derived.Lib.Strings
import Derived.Lib.ItoaNum
import Derived.Lib.AtoiTie
set_option linter.unusedVariables false
set_option linter.unusedSimpArgs false
set_option maxHeartbeats 4000000
set_option maxRecDepth 100000
namespace Go.Proofs.YtociicfjhgfgpaaGreatDoor
open Go.RowKit Go.Proofs.YtociicfjhgfgpaaGreatDoorW.PrintWords
theorem info5 : (Tryz.prog.info? 5).map (fun i => (i.zero, i.size, i.bytes)) = some (some (.int .u8 0), 1, 1) := by kernel_rfl
def OwnB (w : World) (base : Nat) (v : Value) (xs : List Int) : Prop := (Kd.int .u8).R 5 w base (fun _ => True) v xs
theorem OwnB.below {w w' : World} {base : Nat} {v : Value} {xs : List Int} (h : OwnB w base v xs) (hb : Below w.heap.size w w') : OwnB w' base v xs := Kd.R_below h hb
theorem OwnB.nil (w : World) (base : Nat) : OwnB w base (.slice none 0 0) [] := Kd.R_nil _ _ _ _ _
theorem OwnB.own {w : World} {base : Nat} {v : Value} {xs : List Int} (h : OwnB w base v xs) : w.ownsRow base 5 1 v xs.length (nums .u8 xs) := Kd.own_of_R h
section
variable {ops : Array Oper} {rest : List Oper} {o : Oper} {a : Act} {Q : Exit → Act → World → Prop}
theorem appB {w0 W : World} (base : Nat) (s x : Operand) (t : TypeId) (hgd : o.guard = none) (ho : o.op = .call { callee := .builtin .append, args := #[s, x], argTypes := #[t, t] })
  (ht : Tryz.prog.underlying t = some (.slice 5)) (v : Value) (xs : List Int) (y : Int) (hs : a.eval s = v) (hx : a.eval x = .slice (some ⟨W.heap.size, 0, none⟩) 1 1)
  (HO : OwnB W base v xs) (HB : Below base w0 W) (hbase : base ≤ W.heap.size) (hl : xs.length < 17592186044415)
  (h : ∀ v1 w1, OwnB w1 base v1 (xs ++ [y]) → Below base w0 w1 → W.grownBy w1 v.ownBlock → wpList Tryz.prog ops Q rest (a.put o.dst v1) w1) :
  wpList Tryz.prog ops Q (o :: rest) a (W.alloc (.cells #[.int .u8 y] 5)) :=
 Kd.R_append (Kd.int .u8) base hgd s x t 5 (.int .u8 0) 1 ho ht info5 rfl (by decide) (by omega) v xs y [.int .u8 y] (fun _ => True) (fun _ => False) hs hx rfl (fun _ hk => hk.elim) (fun _ _ => trivial) HO HB hbase (by omega)
  (fun v1 w1 h1 h2 h3 _ => h v1 w1 h1 h2 h3)
end
def asc (l : List Int) : List Int := l.reverse.map fun d => d + 48
def txt (neg : Bool) (x : Nat) : ByteArray := if x = 0 then ⟨#[48]⟩ else strOfNums ((if neg then [45] else []) ++ asc (digs 10 x))
theorem asc_step (l : List Int) (m : Nat) (h : m < l.length) : asc (l.drop m) = asc (l.drop (m + 1)) ++ [rd l (m : Int) + 48] := by
 unfold asc
 rw [List.drop_eq_getElem_cons h, List.reverse_cons, List.map_append]
 unfold rd
 rw [Int.toNat_natCast, List.getD_eq_getElem?_getD, List.getElem?_eq_getElem h]
 rfl
theorem ref03_text (neg : Bool) (u : Value) (x : Nat) (w : World) (h : Rd w u (digs 10 x)) (hx : (digs 10 x).length ≤ 6000) :
  Calls Tryz.prog 134 #[.bool neg, u] w fun e w' => e = .returned (.tuple #[.string (txt neg x), .bool (decide (((digs 10 x).length : Int) ≤ 200))]) ∧ Below w.heap.size w w' := by
 obtain ⟨A, c, rfl, hc, hr⟩ := h
 go_enter Tryz.func134, Tryz.ntmps134
 by_cases h0 : x = 0
 ·subst h0
  rw [digs_zero]
  go_wp2
  go_ret2
  exact ⟨rfl, Below.refl _ _⟩
 ·have hpos : 0 < (digs 10 x).length := by
   rw [digs_pos (by decide) (Nat.pos_of_ne_zero h0)]
   simp
  have hb0 : (((digs 10 x).length : Int) == 0) = false := beq_eq_false_iff_ne.2 (by omega)
  have hw0 : wrap64 (((digs 10 x).length : Int) - 1) = ((digs 10 x).length : Int) - 1 := by unfold wrap64; omega
  cases neg with
  | false =>
   go_wp2
   go_loopg [6, 7] (digs 10 x).length (fun k v6 v7 w' => v7 = .int .i64 ((k : Int) - 1) ∧ k ≤ (digs 10 x).length ∧ OwnB w' w.heap.size v6 (([] : List Int) ++ asc ((digs 10 x).drop k)) ∧ Below w.heap.size w w')
   case atStart => exact ⟨by go_num, Nat.le_refl _, by rw [List.drop_length]; exact OwnB.nil _ _, Below.refl _ _⟩
   obtain ⟨rfl, hk, HO, HB⟩ := hrel
   clear hw0
   cases gk with
   | zero =>
    have hcv := own_string (P := Tryz.prog) Tryz.underlying226 Tryz.underlying5 Tryz.underlying9 HO.own
    have HT : Aside0 (strOfNums (([] : List Int) ++ asc ((digs 10 x).drop 0)) = txt false x) := ⟨by unfold txt; rw [if_neg h0]; rfl⟩
    clear hr
    go_wp2
    go_ret2
    exact ⟨by rw [← HT.out]; rfl, HB⟩
   | succ m =>
    have HLN0 : Aside0 ((([] : List Int) ++ asc ((digs 10 x).drop (m + 1))).length < 17592186044415) := ⟨by unfold asc; simp only [List.length_append, List.length_map, List.length_reverse, List.length_drop, List.length_cons, List.length_nil]; omega⟩
    obtain ⟨ad, rfl, hxa⟩ := Kd.at_int (Kd.C_below hr HB) (m : Int) (by omega) (by omega)
    obtain ⟨d, hd, hd10⟩ : ∃ d : Nat, rd (digs 10 x) (m : Int) = (d : Int) ∧ d < 10 := ⟨_, digs_rd (by decide) x m, Nat.mod_lt _ (by decide)⟩
    have HS : Aside0 (asc ((digs 10 x).drop m) = asc ((digs 10 x).drop (m + 1)) ++ [(d : Int) + 48]) := ⟨by rw [asc_step _ _ (by omega), hd]⟩
    rw [Int.toNat_natCast, hd] at hxa
    clear hd
    rw [show ((m + 1 : Nat) : Int) - 1 = (m : Int) by omega]
    have hwm : wrap64 ((m : Int) - 1) = (m : Int) - 1 := by unfold wrap64; omega
    have hmi : (m : Int) < ((digs 10 x).length : Int) := by omega
    go_wp2_with (at_builtin; refine appB (w0 := w) w.heap.size (.tmp 22) (.tmp 29) 226 rfl rfl Tryz.underlying226 _ _ _ rfl rfl HO HB HB.size HLN0.out ?_; intro v2 w2 ho2 hb2 hg2)
    go_roundg m
    case measure => omega
    case rel => exact ⟨by go_num, by omega, by rw [HS.out, ← List.append_assoc]; (first | exact ho2 | (rw [show (d : Int) + 48 = (48 + (d : Int)) % 256 by omega]; exact ho2) | (rw [show (d : Int) + 48 = 48 + (d : Int) by omega]; exact ho2)), hb2⟩
  | true =>
   go_wp2_with (at_builtin; refine appB (w0 := w) w.heap.size _ _ 226 rfl rfl Tryz.underlying226 _ _ _ rfl rfl (OwnB.nil w _) (Below.refl _ _) (Nat.le_refl _) (by simp) ?_; intro v1 w1 ho hb hg)
   clear hg
   go_loopg [6, 7] (digs 10 x).length (fun k v6 v7 w' => v7 = .int .i64 ((k : Int) - 1) ∧ k ≤ (digs 10 x).length ∧ OwnB w' w.heap.size v6 (([45] : List Int) ++ asc ((digs 10 x).drop k)) ∧ Below w.heap.size w w')
   case atStart => exact ⟨by go_num, Nat.le_refl _, by rw [List.drop_length]; exact ho, hb⟩
   obtain ⟨rfl, hk, HO, HB⟩ := hrel
   clear hw0
   cases gk with
   | zero =>
    have hcv := own_string (P := Tryz.prog) Tryz.underlying226 Tryz.underlying5 Tryz.underlying9 HO.own
    have HT : Aside0 (strOfNums (([45] : List Int) ++ asc ((digs 10 x).drop 0)) = txt true x) := ⟨by unfold txt; rw [if_neg h0]; rfl⟩
    clear hr
    go_wp2
    go_ret2
    exact ⟨by rw [← HT.out]; rfl, HB⟩
   | succ m =>
    have HLN0 : Aside0 ((([45] : List Int) ++ asc ((digs 10 x).drop (m + 1))).length < 17592186044415) := ⟨by unfold asc; simp only [List.length_append, List.length_map, List.length_reverse, List.length_drop, List.length_cons, List.length_nil]; omega⟩
    obtain ⟨ad, rfl, hxa⟩ := Kd.at_int (Kd.C_below hr HB) (m : Int) (by omega) (by omega)
    obtain ⟨d, hd, hd10⟩ : ∃ d : Nat, rd (digs 10 x) (m : Int) = (d : Int) ∧ d < 10 := ⟨_, digs_rd (by decide) x m, Nat.mod_lt _ (by decide)⟩
    have HS : Aside0 (asc ((digs 10 x).drop m) = asc ((digs 10 x).drop (m + 1)) ++ [(d : Int) + 48]) := ⟨by rw [asc_step _ _ (by omega), hd]⟩
    rw [Int.toNat_natCast, hd] at hxa
    clear hd
    rw [show ((m + 1 : Nat) : Int) - 1 = (m : Int) by omega]
    have hwm : wrap64 ((m : Int) - 1) = (m : Int) - 1 := by unfold wrap64; omega
    have hmi : (m : Int) < ((digs 10 x).length : Int) := by omega
    go_wp2_with (at_builtin; refine appB (w0 := w) w.heap.size (.tmp 22) (.tmp 29) 226 rfl rfl Tryz.underlying226 _ _ _ rfl rfl HO HB HB.size HLN0.out ?_; intro v2 w2 ho2 hb2 hg2)
    go_roundg m
    case measure => omega
    case rel => exact ⟨by go_num, by omega, by rw [HS.out, ← List.append_assoc]; (first | exact ho2 | (rw [show (d : Int) + 48 = (48 + (d : Int)) % 256 by omega]; exact ho2) | (rw [show (d : Int) + 48 = 48 + (d : Int) by omega]; exact ho2)), hb2⟩
end Go.Proofs.YtociicfjhgfgpaaGreatDoor
namespace Go.Proofs.YtociicfjhgfgpaaGreatDoor
open Go.RowKit Go.Proofs.YtociicfjhgfgpaaGreatDoorW.PrintWords
def itx (z : Int) : ByteArray := txt (decide (z < 0)) z.natAbs
def fit (z : Int) : Prop := z.natAbs < 10 ^ 200
instance (z : Int) : Decidable (fit z) := inferInstanceAs (Decidable (_ < _))
theorem fit_len {z : Int} (h : fit z) : (digs 10 z.natAbs).length ≤ 200 := digs_len_le (by decide) h
theorem len_fit {z : Int} (h : (digs 10 z.natAbs).length ≤ 200) : fit z :=
 Nat.lt_of_lt_of_le (digs_big (by decide) z.natAbs) (Nat.pow_le_pow_right (by decide) h)
def sg (n : Bool) (a : Nat) : Int := if n then -(a : Int) else a
theorem txt_sg (n : Bool) (a : Nat) : txt n a = itx (sg n a) := by
 unfold itx sg
 cases n with
 | false =>
  simp only [Bool.false_eq_true, if_false, Int.natAbs_natCast]
  rw [decide_eq_false (by omega)]
 | true =>
  simp only [if_true, Int.natAbs_neg, Int.natAbs_natCast]
  by_cases h : a = 0
  ·subst h
   rfl
  ·rw [decide_eq_true (by omega)]
theorem sg_self (z : Int) : sg (decide (z < 0)) z.natAbs = z := by
 unfold sg
 by_cases h : z < 0
 ·rw [decide_eq_true h, if_pos rfl]; omega
 ·rw [decide_eq_false h, if_neg (by simp)]; omega
theorem sg_abs (n : Bool) (a : Nat) : (sg n a).natAbs = a := by
 unfold sg
 split <;> omega
def bs (x : Nat) : ByteArray := strOfNums (asc (digs 10 x))
theorem asc_len (l : List Int) : (asc l).length = l.length := by simp [asc]
theorem bs_size (x : Nat) : (bs x).size = (digs 10 x).length := by
 unfold bs
 rw [strOfNums_size, asc_len]
theorem nums_size (l : List Int) : (strOfNums l).size = l.length := strOfNums_size l
theorem nums_get (l : List Int) (i : Nat) (h : i < (strOfNums l).size) : (strOfNums l)[i] = UInt8.ofNat (l.getD i 0).toNat := by
 have h' : i < l.length := by rw [strOfNums_size] at h; exact h
 rw [List.getD_eq_getElem?_getD, List.getElem?_eq_getElem h']
 show ((l.map fun n => UInt8.ofNat n.toNat).toArray)[i]'(by simpa using h') = _
 rw [List.getElem_toArray, List.getElem_map]
 rfl
theorem asc_get (l : List Int) (i : Nat) (h : i < l.length) : (asc l).getD i 0 = rd l ((l.length - 1 - i : Nat) : Int) + 48 := by
 unfold asc rd
 rw [Int.toNat_natCast, List.getD_eq_getElem?_getD, List.getElem?_map, List.getElem?_reverse h, List.getD_eq_getElem?_getD, List.getElem?_eq_getElem (by omega)]
 rfl
theorem bs_get (x i : Nat) (h : i < (bs x).size) : ((bs x)[i]).toNat = x / 10 ^ ((digs 10 x).length - 1 - i) % 10 + 48 := by
 have h' : i < (digs 10 x).length := by rw [bs_size] at h; exact h
 have h2 : (bs x)[i] = UInt8.ofNat ((asc (digs 10 x)).getD i 0).toNat := nums_get _ i h
 rw [h2, asc_get _ i h', digs_rd (by decide)]
 have h3 : x / 10 ^ ((digs 10 x).length - 1 - i) % 10 < 10 := Nat.mod_lt _ (by decide)
 have h4 : ((x / 10 ^ ((digs 10 x).length - 1 - i) % 10 : Nat) : Int) + 48 = ((x / 10 ^ ((digs 10 x).length - 1 - i) % 10 + 48 : Nat) : Int) := by omega
 rw [h4, Int.toNat_natCast]
 simp
 omega
theorem txt_zero (n : Bool) : txt n 0 = ⟨#[48]⟩ := rfl
theorem txt_pos {x : Nat} (h : x ≠ 0) : txt false x = bs x := by
 unfold txt
 rw [if_neg h]
 rfl
theorem txt_neg {x : Nat} (h : x ≠ 0) : txt true x = strOfNums (45 :: asc (digs 10 x)) := by
 unfold txt
 rw [if_neg h]
 rfl
theorem nums_tail (a : Int) (l : List Int) : (strOfNums (a :: l)).extract 1 (strOfNums (a :: l)).size = strOfNums l := by
 apply ByteArray.ext
 apply Array.toList_inj.1
 rw [Lib.extract_data, strOfNums_data, strOfNums_data, strOfNums_size]
 simp only [List.map_cons, List.drop_succ_cons, List.drop_zero, List.length_cons, Nat.add_sub_cancel]
 exact List.take_of_length_le (by simp)
def bare (l : List UInt8) : List UInt8 := if l.head? = some 45 then l.tail else l
def isDig (b : UInt8) : Bool := decide (48 ≤ b.toNat) && decide (b.toNat ≤ 57)
def isIntL (l : List UInt8) : Bool := !(l == [45, 48]) && ((bare l).all isDig && (decide (0 < (bare l).length) && (decide ((bare l).length ≤ 200) && (bare l == [48] || !((bare l).head? == some 48)))))
def isInt (s : ByteArray) : Bool := isIntL s.data.toList
theorem asc_byte (l : List Int) (h : Dig 10 l) : ∀ b ∈ (asc l).map fun n => UInt8.ofNat n.toNat, isDig b = true := by
 intro b hb
 obtain ⟨n, hn, rfl⟩ := List.mem_map.1 hb
 unfold asc at hn
 obtain ⟨d, hd, rfl⟩ := List.mem_map.1 hn
 obtain ⟨h1, h2⟩ := h d (List.mem_reverse.1 hd)
 have e : (d + 48).toNat = d.toNat + 48 := by omega
 have e2 : (UInt8.ofNat (d.toNat + 48)).toNat = d.toNat + 48 := by simp; omega
 unfold isDig
 rw [e, e2]
 simp
 omega
theorem bs_head {x : Nat} (h : x ≠ 0) : ∃ c t, (asc (digs 10 x)).map (fun n => UInt8.ofNat n.toNat) = c :: t ∧ c.toNat ≠ 48 ∧ c.toNat ≠ 45 := by
 have hpos : 0 < (digs 10 x).length := by
  rw [digs_pos (by decide) (by omega)]
  simp
 have hs : 0 < (bs x).size := by rw [bs_size]; exact hpos
 have hg := bs_get x 0 hs
 have h1 := (digs_lt (b := 10) (by decide) x ((digs 10 x).length - 1)).1 (by omega)
 have h2 : ¬ 0 < x / 10 ^ ((digs 10 x).length - 1 + 1) := by
  rw [← digs_lt (b := 10) (by decide)]
  omega
 rw [Nat.pow_succ, ← Nat.div_div_eq_div_mul] at h2
 rw [Nat.sub_zero] at hg
 cases hl : (asc (digs 10 x)).map (fun n => UInt8.ofNat n.toNat) with
 | nil =>
  have := congrArg List.length hl
  simp [asc] at this
  rw [this] at hpos
  simp at hpos
 | cons c t =>
  refine ⟨c, t, rfl, ?_⟩
  have : (bs x)[0] = c := by
   show (((asc (digs 10 x)).map fun n => UInt8.ofNat n.toNat).toArray)[0]'_ = c
   simp only [hl]
   rfl
  rw [this] at hg
  omega
theorem byte_ne {b : UInt8} {n : Nat} (h : b.toNat ≠ n) (m : UInt8) (hm : m.toNat = n) : b ≠ m := fun e => h (by rw [e]; exact hm)
theorem isInt_txt (n : Bool) (x : Nat) (h : (digs 10 x).length ≤ 200) : isInt (txt n x) = true := by
 by_cases h0 : x = 0
 ·subst h0
  rfl
 ·obtain ⟨c, t, he, h1, h2⟩ := bs_head h0
  have hall := asc_byte _ (digs_dig (b := 10) (by decide) x)
  have hlen : (c :: t).length ≤ 200 := by rw [← he]; simpa [asc] using h
  have c1 : c ≠ 48 := byte_ne h1 48 rfl
  have c2 : c ≠ 45 := byte_ne h2 45 rfl
  rw [he] at hall
  have ha : (c :: t).all isDig = true := List.all_eq_true.2 hall
  cases n with
  | false =>
   rw [txt_pos h0]
   have e : (bs x).data.toList = c :: t := he
   unfold isInt isIntL
   rw [e]
   have eb : bare (c :: t) = c :: t := by unfold bare; rw [if_neg (by simpa using c2)]
   rw [eb, ha]
   have e3 : ((c :: t) == [45, 48]) = false := beq_eq_false_iff_ne.2 (fun e => c2 (List.cons.inj e).1)
   rw [e3, decide_eq_true (by simp), decide_eq_true hlen]
   simp [c1]
  | true =>
   rw [txt_neg h0]
   have e : (strOfNums (45 :: asc (digs 10 x))).data.toList = 45 :: c :: t := by rw [strOfNums_data, List.map_cons, he]; rfl
   unfold isInt isIntL
   rw [e]
   have eb : bare (45 :: c :: t) = c :: t := rfl
   rw [eb, ha]
   have e3 : ((45 :: c :: t) == [45, 48]) = false := beq_eq_false_iff_ne.2 (fun e => c1 (List.cons.inj (List.cons.inj e).2).1)
   rw [e3, decide_eq_true (by simp), decide_eq_true hlen]
   simp [c1]
theorem isInt_itx {z : Int} (h : fit z) : isInt (itx z) = true := isInt_txt _ _ (fit_len h)
def dec (L : List UInt8) : Int := sg (L.head? == some 45) (val 10 ((bare L).map fun b => (b.toNat : Int) - 48).reverse)
theorem asc_back (l : List Int) (h : Dig 10 l) : (((asc l).map (fun n => UInt8.ofNat n.toNat)).map fun b => (b.toNat : Int) - 48).reverse = l := by
 unfold asc
 rw [List.map_map, List.map_map, ← List.map_reverse, List.reverse_reverse]
 refine (List.map_congr_left (g := id) ?_).trans (List.map_id l)
 intro d hd
 obtain ⟨h1, h2⟩ := h d hd
 have e : (d + 48).toNat = d.toNat + 48 := by omega
 have e2 : (UInt8.ofNat (d.toNat + 48)).toNat = d.toNat + 48 := by simp; omega
 show ((UInt8.ofNat (d + 48).toNat).toNat : Int) - 48 = d
 rw [e, e2]
 omega
theorem dec_txt (n : Bool) (x : Nat) : dec (txt n x).data.toList = sg n x := by
 by_cases h0 : x = 0
 ·subst h0
  cases n <;> rfl
 ·obtain ⟨c, t, he, h1, h2⟩ := bs_head h0
  have c2 : c ≠ 45 := byte_ne h2 45 rfl
  have hb := asc_back _ (digs_dig (b := 10) (by decide) x)
  rw [he] at hb
  cases n with
  | false =>
   rw [txt_pos h0]
   have e : (bs x).data.toList = c :: t := he
   unfold dec
   have eb : bare (c :: t) = c :: t := by unfold bare; rw [if_neg (by simpa using c2)]
   have e3 : ((c :: t).head? == some 45) = false := beq_eq_false_iff_ne.2 (by simpa using c2)
   rw [e, eb, hb, val_digs (by decide), e3]
  | true =>
   rw [txt_neg h0]
   have e : (strOfNums (45 :: asc (digs 10 x))).data.toList = 45 :: c :: t := by rw [strOfNums_data, List.map_cons, he]; rfl
   unfold dec
   have eb : bare (45 :: c :: t) = c :: t := rfl
   have e3 : ((45 :: c :: t).head? == some (45 : UInt8)) = true := rfl
   rw [e, eb, hb, val_digs (by decide), e3]
theorem itx_inj {z u : Int} (h : itx z = itx u) : z = u := by
 have h1 := dec_txt (decide (z < 0)) z.natAbs
 have h2 := dec_txt (decide (u < 0)) u.natAbs
 rw [sg_self] at h1 h2
 have h3 : (txt (decide (z < 0)) z.natAbs) = (txt (decide (u < 0)) u.natAbs) := h
 rw [h3, h2] at h1
 exact h1.symm
theorem itx_eq (z u : Int) : ((itx z).toList == (itx u).toList) = decide (z = u) := by
 by_cases h : z = u
 ·subst h
  simp
 ·rw [decide_eq_false h]
  apply beq_eq_false_iff_ne.2
  intro e
  apply h
  apply itx_inj
  rw [ByteArray.toList_eq, ByteArray.toList_eq] at e
  apply ByteArray.ext
  exact Array.toList_inj.1 e
end Go.Proofs.YtociicfjhgfgpaaGreatDoor
namespace Go.Proofs.YtociicfjhgfgpaaGreatDoor
open Go.RowKit Lib
theorem dd_step {h d : Nat} (hh : 0 < h) (hd : d < 10) : decDigits (10 * h + d) = decDigits h ++ [UInt8.ofNat (48 + d)] := by
 rw [decDigits, dif_neg (by omega)]
 rw [show (10 * h + d) / 10 = h by omega, show (10 * h + d) % 10 = d by omega]
def pad4 (g : Nat) : List UInt8 := [UInt8.ofNat (48 + g / 1000 % 10), UInt8.ofNat (48 + g / 100 % 10), UInt8.ofNat (48 + g / 10 % 10), UInt8.ofNat (48 + g % 10)]
theorem dd_group {h g : Nat} (hh : 0 < h) (hg : g < 10000) : decDigits (10000 * h + g) = decDigits h ++ pad4 g := by
 have e1 : 10000 * h + g = 10 * (1000 * h + g / 10) + g % 10 := by omega
 have e2 : 1000 * h + g / 10 = 10 * (100 * h + g / 100) + g / 10 % 10 := by omega
 have e3 : 100 * h + g / 100 = 10 * (10 * h + g / 1000) + g / 100 % 10 := by omega
 have e4 : 10 * h + g / 1000 = 10 * h + g / 1000 % 10 := by omega
 rw [e1, dd_step (by omega) (by omega), e2, dd_step (by omega) (by omega), e3, dd_step (by omega) (by omega), e4, dd_step hh (by omega)]
 unfold pad4
 simp
theorem dd_1 {g : Nat} (h : g < 10) : decDigits g = [UInt8.ofNat (48 + g)] := decDigits_one h
theorem dd_2 {g : Nat} (h1 : 10 ≤ g) (h2 : g < 100) : decDigits g = [UInt8.ofNat (48 + g / 10), UInt8.ofNat (48 + g % 10)] := decDigits_two (by omega) h2
theorem dd_3 {g : Nat} (h1 : 100 ≤ g) (h2 : g < 1000) : decDigits g = [UInt8.ofNat (48 + g / 100), UInt8.ofNat (48 + g / 10 % 10), UInt8.ofNat (48 + g % 10)] := by
 rw [show g = 10 * (g / 10) + g % 10 by omega, dd_step (by omega) (by omega), dd_2 (by omega) (by omega)]
 rw [show (10 * (g / 10) + g % 10) / 100 = g / 10 / 10 by omega, show (10 * (g / 10) + g % 10) / 10 % 10 = g / 10 % 10 by omega, show (10 * (g / 10) + g % 10) % 10 = g % 10 by omega]
 rfl
theorem dd_4 {g : Nat} (h1 : 1000 ≤ g) (h2 : g < 10000) : decDigits g = pad4 g := by
 rw [show g = 10 * (g / 10) + g % 10 by omega, dd_step (by omega) (by omega), dd_3 (by omega) (by omega)]
 unfold pad4
 rw [show (10 * (g / 10) + g % 10) / 1000 % 10 = g / 10 / 100 by omega, show (10 * (g / 10) + g % 10) / 100 % 10 = g / 10 / 10 % 10 by omega, show (10 * (g / 10) + g % 10) / 10 % 10 = g / 10 % 10 by omega, show (10 * (g / 10) + g % 10) % 10 = g % 10 by omega]
 rfl
theorem dd_small {g : Nat} (h : g < 10000) : 1 ≤ (decDigits g).length ∧ (decDigits g).length ≤ 4 ∧ List.replicate (4 - (decDigits g).length) 48 ++ decDigits g = pad4 g := by
 by_cases h1 : g < 10
 ·rw [dd_1 h1]
  refine ⟨by simp, by simp, ?_⟩
  unfold pad4
  rw [show g / 1000 % 10 = 0 by omega, show g / 100 % 10 = 0 by omega, show g / 10 % 10 = 0 by omega, show g % 10 = g by omega]
  rfl
 ·by_cases h2 : g < 100
  ·rw [dd_2 (by omega) h2]
   refine ⟨by simp, by simp, ?_⟩
   unfold pad4
   rw [show g / 1000 % 10 = 0 by omega, show g / 100 % 10 = 0 by omega, show g / 10 % 10 = g / 10 by omega]
   rfl
  ·by_cases h3 : g < 1000
   ·rw [dd_3 (by omega) h3]
    refine ⟨by simp, by simp, ?_⟩
    unfold pad4
    rw [show g / 1000 % 10 = 0 by omega, show g / 100 % 10 = g / 100 by omega]
    rfl
   ·rw [dd_4 (by omega) h]
    exact ⟨by simp [pad4], by simp [pad4], by simp [pad4]⟩
theorem dd_len_big {y : Nat} (h : 10000 ≤ y) : decDigits y = decDigits (y / 10000) ++ pad4 (y % 10000) ∧ 0 < y / 10000 := by
 have h0 : 0 < y / 10000 := by omega
 refine ⟨?_, h0⟩
 rw [← dd_group h0 (by omega)]
 congr 1
 omega
theorem dig_val {n : Nat} (h : n < 10) : digitVal (UInt8.ofNat (48 + n)) = some n := by
 have : ∀ i : Fin 10, digitVal (UInt8.ofNat (48 + i.val)) = some i.val := by decide
 exact this ⟨n, h⟩
theorem atoi_of {l : List UInt8} {m : Nat} (hl : l.length ≤ 18) (hne : l ≠ []) (h45 : l.head? ≠ some 45) (h43 : l.head? ≠ some 43) (h : decFrom 0 l = some m) : atoiAll l = .ok (m : Int) := by
 rw [atoiAll_short l hl]
 cases l with
 | nil => exact absurd rfl hne
 | cons b r =>
  have e : atoi (b :: r) = (decNat (b :: r)).map fun (m : Nat) => (m : Int) := by
   show (if (b == 45) = true then _ else _) = _
   rw [if_neg (by simpa using h45), if_neg (by simpa using h43)]
  rw [e]
  unfold decNat
  rw [if_neg (by simp), h]
  rfl
theorem byte_head {n : Nat} (h : n < 10) : (some (UInt8.ofNat (48 + n)) ≠ some (45 : UInt8)) ∧ (some (UInt8.ofNat (48 + n)) ≠ some (43 : UInt8)) := by
 have : ∀ i : Fin 10, (some (UInt8.ofNat (48 + i.val)) ≠ some (45 : UInt8)) ∧ (some (UInt8.ofNat (48 + i.val)) ≠ some (43 : UInt8)) := by decide
 exact this ⟨n, h⟩
theorem atoi_pad {g : Nat} (h : g < 10000) : atoiAll (pad4 g) = .ok (g : Int) := by
 refine atoi_of (by simp [pad4]) (by simp [pad4]) (byte_head (by omega)).1 (byte_head (by omega)).2 ?_
 unfold pad4
 simp only [decFrom, dig_val (show g / 1000 % 10 < 10 by omega), dig_val (show g / 100 % 10 < 10 by omega), dig_val (show g / 10 % 10 < 10 by omega), dig_val (show g % 10 < 10 by omega)]
 congr 1
 omega
theorem atoi_dd {g : Nat} (h : g < 10000) : atoiAll (decDigits g) = .ok (g : Int) := by
 by_cases h1 : g < 10
 ·rw [dd_1 h1]
  refine atoi_of (by simp) (by simp) (byte_head h1).1 (byte_head h1).2 ?_
  simp only [decFrom, dig_val h1]
  congr 1
  omega
 ·by_cases h2 : g < 100
  ·rw [dd_2 (by omega) h2]
   refine atoi_of (by simp) (by simp) (byte_head (by omega)).1 (byte_head (by omega)).2 ?_
   simp only [decFrom, dig_val (show g / 10 < 10 by omega), dig_val (show g % 10 < 10 by omega)]
   congr 1
   omega
  ·by_cases h3 : g < 1000
   ·rw [dd_3 (by omega) h3]
    refine atoi_of (by simp) (by simp) (byte_head (by omega)).1 (byte_head (by omega)).2 ?_
    simp only [decFrom, dig_val (show g / 100 < 10 by omega), dig_val (show g / 10 % 10 < 10 by omega), dig_val (show g % 10 < 10 by omega)]
    congr 1
    omega
   ·rw [dd_4 (by omega) h]
    exact atoi_pad h
theorem bs_dd : ∀ x : Nat, 0 < x → (asc (digs 10 x)).map (fun n => UInt8.ofNat n.toNat) = decDigits x := by
 intro x
 induction x using Nat.strongRecOn with
 | _ x ih =>
  intro hx
  have h1 : x % 10 < 10 := Nat.mod_lt _ (by decide)
  rw [digs_pos (by decide) hx]
  unfold asc
  rw [List.reverse_cons, List.map_append, List.map_append]
  have e : (fun n : Int => UInt8.ofNat n.toNat) (((x % 10 : Nat) : Int) + 48) = UInt8.ofNat (48 + x % 10) := by
   show UInt8.ofNat (((x % 10 : Nat) : Int) + 48).toNat = _
   congr 1
   omega
  by_cases hs : x < 10
  ·rw [Nat.div_eq_of_lt hs, digs_zero, dd_1 hs]
   simp only [List.reverse_nil, List.map_nil, List.nil_append, List.map_cons]
   rw [show x % 10 = x by omega] at e ⊢
   rw [← e]
  ·have := ih (x / 10) (by omega) (by omega)
   unfold asc at this
   rw [this]
   conv => rhs; rw [show x = 10 * (x / 10) + x % 10 by omega]
   rw [dd_step (by omega) h1]
   simp only [List.map_cons, List.map_nil]
   rw [← e]
theorem itx_itoa (z : Int) : (itx z).data.toList = itoa z := by
 unfold itx itoa
 by_cases h0 : z.natAbs = 0
 ·obtain rfl : z = 0 := by omega
  rw [if_neg (by decide)]
  show ([48] : List UInt8) = decDigits 0
  rw [dd_1 (by decide)]
  rfl
 ·by_cases hz : z < 0
  ·rw [decide_eq_true hz, if_pos hz, txt_neg h0, strOfNums_data, List.map_cons, bs_dd _ (by omega)]
   rfl
  ·rw [decide_eq_false hz, if_neg hz, txt_pos h0]
   unfold bs
   rw [strOfNums_data, bs_dd _ (by omega)]
   congr 1
   omega
theorem itx_arr (z : Int) : itx z = ⟨(itoa z).toArray⟩ := by rw [← itx_itoa]
theorem itx_nat (x : Nat) : itx (x : Int) = ⟨(decDigits x).toArray⟩ := by
 rw [itx_arr]
 unfold itoa
 rw [if_neg (by omega), Int.toNat_natCast]
end Go.Proofs.YtociicfjhgfgpaaGreatDoor

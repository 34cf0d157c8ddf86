/- integer: text: the walk. workpieceref03: checked, digits, sum: the walks. -/
import Derived.Test.YtociicfjhgfgpaaGreatDoorR09
import Derived.Test.YtociicfjhgfgpaaGreatDoorR08
set_option linter.unusedVariables false
set_option linter.unusedSimpArgs false
set_option maxHeartbeats 4000000
set_option maxRecDepth 100000
namespace Go.Proofs.YtociicfjhgfgpaaGreatDoor
open Go.RowKit Go.Shelf Go.Lib Go.Proofs.YtociicfjhgfgpaaGreatDoorW.PrintWords
attribute [local go_sem] Oper.semAt_some
def upd (x k : Nat) : List UInt8 := if x / 10000 ^ k = 0 then [] else decDigits (x / 10000 ^ k)
theorem dd_lenB {x k : Nat} (hx : 0 < x) (h : x < 10 ^ k) : (decDigits x).length ≤ k := by
 rw [← bs_dd x hx]
 have := digs_len_le (b := 10) (by decide) h
 simp only [asc, List.length_map, List.length_reverse]
 omega
theorem pow_up (m : Nat) : 10000 ^ m ≤ 10 ^ (4 * m) := by
 rw [Nat.pow_mul]
 exact Nat.le_of_eq (congrArg (· ^ m) (show (10000 : Nat) = 10 ^ 4 by decide))
theorem upd_len' (x k m : Nat) (h : (digs 10000 x).length ≤ m) : (upd x k).length ≤ 4 * m := by
 unfold upd
 split
 ·simp
 ·rename_i hne
  refine dd_lenB (Nat.pos_of_ne_zero hne) ?_
  have h1 : x < 10000 ^ m := Nat.lt_of_lt_of_le (digs_big (by decide) x) (Nat.pow_le_pow_right (by decide) h)
  exact Nat.lt_of_lt_of_le (Nat.lt_of_le_of_lt (Nat.div_le_self _ _) h1) (pow_up m)
theorem upd_len (x k : Nat) (h : (digs 10000 x).length ≤ 1000) : (upd x k).length ≤ 4000 := upd_len' x k 1000 h
theorem itx_negN (x : Nat) (hx : 0 < x) : itx (-(x : Int)) = (⟨#[45]⟩ : ByteArray) ++ itx (x : Int) := by
 rw [itx_arr, itx_nat]
 unfold itoa
 rw [if_pos (by omega)]
 exact ByteArray.ext (by simp)
theorem rep_eq (a : UInt8) : ∀ n, Lib.repeatL [a] n = List.replicate n a := by
 intro n
 induction n with
 | zero => rfl
 | succ n ih => simp_all [Lib.repeatL, List.replicate_succ]
def txJ (w : World) (neg : Bool) (u : Value) (x : Nat) (k : Nat) (W : World) : Prop :=
 Below w.heap.size w W ∧ (Blk W (w.heap.size + 2) #[u] 166 ∧ (Blk W w.heap.size #[.bool neg, u] 168 ∧ Bd W w.heap.size (w.heap.size + 1) (upd x k)))
theorem txJ_from (w : World) (neg : Bool) (u : Value) (x B : Nat) (hB : w.heap.size ≤ B) : OwnFrom B (txJ w neg u x) :=
 OwnFrom.and (ownFrom_below (Nat.le_refl _) hB) (OwnFrom.and (blk_from B _ _ (fun _ => #[u])) (OwnFrom.and (blk_from B _ _ (fun _ => #[.bool neg, u])) (bd_from B _ _ (upd x))))
theorem text_in (neg : Bool) (u : Value) (x : Nat) (o1 : ByteArray) (o2 : Int) (HO : Aside0 ((200 < (decDigits x).length → o1 = ⟨#[]⟩ ∧ o2 = 30) ∧ (¬ 200 < (decDigits x).length → o1 = itx (if neg then -(x : Int) else x) ∧ o2 = 0))) (w : World) (hp : Pow w) (h : Rd w u (digs 10000 x)) (hl : (digs 10000 x).length ≤ 1000) (hx : 0 < x) :
  CallsIn Fence.wide 8 Tryz.prog 115 #[.agg #[.bool neg, u]] w fun e w' => e = .returned (.tuple #[.string o1, .int .i64 o2]) ∧ Below w.heap.size w w' := by
 have R1 := Aside0.mk h
 obtain ⟨A, c, rfl, -, -⟩ := h
 have hla0 : 0 < (digs 10000 x).length := by rw [digs_pos (by decide) hx]; simp
 generalize hla : (digs 10000 x).length = la at *
 obtain ⟨WL, hWL⟩ : ∃ WL, ((w.alloc (.cells #[.bool neg, .slice A la c] 168)).alloc (.cells #[.pointer none, .slice none 0 0] 228)).alloc (.cells #[.slice A la c] 166) = WL := ⟨_, rfl⟩
 have hB0 : Below w.heap.size w WL := by rw [← hWL]; exact bZa (bZa (bZa (Below.refl _ _) _) _) _
 have hk0 : Blk WL w.heap.size #[.bool neg, .slice A la c] 168 := by rw [← hWL]; exact ((Blk.new w _ _).alloc _).alloc _
 have hk2 : Blk WL (w.heap.size + 2) #[.slice A la c] 166 := by
  rw [← hWL]
  have := Blk.new ((w.alloc (.cells #[.bool neg, .slice A la c] 168)).alloc (.cells #[.pointer none, .slice none 0 0] 228)) #[.slice A la c] 166
  rwa [World.size_alloc, World.size_alloc] at this
 have hd1 : Bd WL w.heap.size (w.heap.size + 1) [] := by
  rw [← hWL]
  refine Bd.below (W := (w.alloc (.cells #[.bool neg, .slice A la c] 168)).alloc (.cells #[.pointer none, .slice none 0 0] 228)) ?_ (bZa (Below.refl _ _) _)
  have h9 := Blk.new (w.alloc (.cells #[.bool neg, .slice A la c] 168)) #[.pointer none, .slice none 0 0] 228
  rw [World.size_alloc] at h9
  exact .inl ⟨Nat.le_succ _, .slice none 0 0, h9, World.ownsRow_nil _ _ _ _, by simp [Value.ownBlock]⟩
 have hsz : WL.heap.size = w.heap.size + 3 := by rw [← hWL]; simp
 have HK := Aside0.mk (And.intro hB0 (And.intro hk2 (And.intro hk0 hd1)))
 clear hB0 hk0 hk2 hd1
 refine callsIn_of_wp_marks Tryz.func115 rfl trivial ?_ rfl
 simp only [Tryz.ntmps115, List.size_toArray, List.length_cons, List.length_nil, Nat.reduceAdd, Nat.reduceSub, Array.replicate_succ, Array.replicate_zero, List.push_toArray, List.append_toArray, List.nil_append, List.cons_append]
 have HWL := Aside0.mk hWL
 clear hWL
 gi_wp2_with (refine ⟨trivial, ?_⟩; gi_at_call 164; refine (callsIn_wide.2 (back_mk _ _ _ _)).mono ?_; rintro e w2 ⟨rfl, rfl⟩)
 have hWL := HWL.out
 change _ = WL at hWL
 rw [hWL]
 have huz : upd x la = [] := by
  unfold upd
  rw [if_pos]
  rw [← hla]
  exact Nat.div_eq_of_lt (digs_big (by decide) x)
 refine wpIn_back (B := w.heap.size + 2) (v := .slice A la c) (xs := digs 10000 x) rfl trivial (by omega) (by omega) rfl rfl _ rfl (txJ w neg (.slice A la c) x) (fun _ _ => False) (txJ_from _ _ _ _ _ (by rw [hsz]; omega)) (fun _ _ _ _ hs _ _ => hs) ?hJr ?h0
  (fun y => { tmps := #[Value.agg #[Value.bool neg, Value.slice A la c], Value.pointer (some { block := w.heap.size, off := 0 }), Value.string { data := #[] }, Value.int IntKind.i64 0, Value.pointer (some { block := w.heap.size + 1, off := 0 }), .int .i64 y.1, .int .i64 y.2, undef, undef, Value.pointer (some { block := w.heap.size, off := 1 }), Value.slice A la c, Value.int IntKind.i64 la, Value.bool false, Value.pointer (some { block := w.heap.size, off := 1 }), Value.slice A la c, Value.func (Fn.func 200) #[] #[Value.pointer (some { block := w.heap.size + 2, off := 0 })], .int .i64 y.1, .int .i64 y.2, undef, undef, undef, undef, undef, undef, undef, undef, undef, undef, undef, undef, undef, undef, undef, undef, undef, undef, undef, undef, undef, undef, undef, undef, undef], defers := [] }) ?assign ?body ?done ?stop
 case hJr => exact fun k W h => ⟨h.2.1, R1.out.below h.1⟩
 case h0 =>
  rw [hla]
  refine ⟨HK.out.1, HK.out.2.1, HK.out.2.2.1, ?_⟩
  rw [huz]
  exact HK.out.2.2.2
 case assign =>
  intro l x W K hK
  gi_wp2
  exact hK
 case body =>
  rintro l k W hk ⟨hB, hk2, hk0, hbd⟩
  rw [digs_rd (by decide)]
  have hHI : 0 < x / 10000 ^ k := (digs_lt (by decide) x k).1 hk
  have hHL : k + 1 < la ↔ 0 < x / 10000 ^ (k + 1) := by rw [← hla]; exact digs_lt (by decide) x (k + 1)
  have hstep : x / 10000 ^ k = 10000 * (x / 10000 ^ (k + 1)) + x / 10000 ^ k % 10000 := by
   rw [Nat.pow_succ, ← Nat.div_div_eq_div_mul]
   omega
  obtain ⟨d, hd⟩ : ∃ d, x / 10000 ^ k % 10000 = d := ⟨_, rfl⟩
  rw [hd]
  rw [hd] at hstep
  have hd9 : d < 10000 := by rw [← hd]; exact Nat.mod_lt _ (by decide)
  have hU0 : upd x k = decDigits (x / 10000 ^ k) := by unfold upd; rw [if_neg (by omega)]
  have hHP : Pow W := hp.below hB
  have IT := fun W h => itoa_at d hd9 W h
  obtain ⟨S1, hS1⟩ : ∃ S1 : ByteArray, (⟨(decDigits d).toArray⟩ : ByteArray) = S1 := ⟨_, rfl⟩
  rw [hS1] at IT
  obtain ⟨n, hn⟩ : ∃ n, S1.size = n := ⟨_, rfl⟩
  have hn1 : (decDigits d).length = n := by rw [← hn, ← hS1]; rfl
  obtain ⟨hd1, hd4, hdp⟩ := dd_small hd9
  rw [hn1] at hd1 hd4 hdp
  have hlu : (upd x (k + 1)).length ≤ 900000 := Nat.le_trans (upd_len x (k + 1) (by omega)) (by decide)
  by_cases hkl : k + 1 < la
  ·have hUn : upd x k = upd x (k + 1) ++ pad4 d := by
    have h9 := hHL.1 hkl
    rw [hU0, hstep, dd_group h9 hd9]
    unfold upd
    rw [if_neg (by omega)]
   have WR := fun W h => bd_write w.heap.size (w.heap.size + 1) (upd x (k + 1)) (pad4 d) W h (by simp [pad4]; omega)
   rw [← hUn] at WR
   have RP := fun W => Lz.strings_Repeat ⟨#[48]⟩ (4 - n) W (by omega) (by simp [ByteArray.size]; omega)
   obtain ⟨S2, hS2⟩ : ∃ S2 : ByteArray, (⟨(Lib.repeatL [48] (4 - n)).toArray⟩ : ByteArray) = S2 := ⟨_, rfl⟩
   rw [show (⟨#[48]⟩ : ByteArray).data.toList = [48] from rfl, hS2] at RP
   have hcat : S2 ++ S1 = ⟨(pad4 d).toArray⟩ := by
    rw [← hS1, ← hS2, ← hdp, rep_eq]
    exact ByteArray.ext (by simp)
   obtain ⟨S3, hS3⟩ : ∃ S3 : ByteArray, (⟨(pad4 d).toArray⟩ : ByteArray) = S3 := ⟨_, rfl⟩
   rw [hS3] at hcat WR
   rw [show ((4 - n : Nat) : Int) = 4 - (n : Int) by omega] at RP
   have hki : (k : Int) < (la : Int) - 1 := by omega
   have hcl : (9223372036854775807 < S2.size + n) = False := by
    have : S2.size = 4 - n := by rw [← hS2, rep_eq]; simp [ByteArray.size]
    rw [this]
    exact eq_false (by omega)
   clear hU0 hstep hHL hHI hd hS1 hS2 hS3 hn1 hUn hdp
   have c1 := hk0.cell 1
   gi_wp2_with (first | (refine ⟨trivial, ?_⟩; gi_at_call 173; refine (CallsIn.inRound l (callsIn_wide.2 (IT _ hHP))).mono ?_; rintro e w2 ⟨rfl, hb2⟩; have c12 := (hk0.below hb2).cell 1) | (refine ⟨trivial, ?_⟩; gi_at_call 174; refine (CallsIn.inRound l (callsIn_wide.2 (RP _))).mono ?_; rintro e w3 ⟨rfl, hb3⟩) | (refine ⟨trivial, ?_⟩; gi_at_call 175; refine (CallsIn.inRound l (callsIn_wide.2 (WR _ (hbd.below (bZs hb2 hb3)) (by have := hB.size; have := hb2.size; have := hb3.size; omega)))).mono ?_; rintro e w4 ⟨rfl, hbd4, hb4, hK4, hKB4⟩))
   have hB2 := bZs hb2 hb3
   exact ⟨((keeps_below hB2).trans hK4).from _, (bZs hB hB2).trans (hb4.mono (Nat.le_refl _)), hKB4 _ _ _ (hk2.below hB2) (by decide) (by omega), hKB4 _ _ _ (hk0.below hB2) (by decide) (by omega), hbd4⟩
  ·obtain rfl : k + 1 = la := by omega
   have hh : x / 10000 ^ (k + 1) = 0 := by omega
   have hUn : upd x k = upd x (k + 1) ++ decDigits d := by
    rw [hU0, hstep, hh]
    unfold upd
    rw [if_pos hh]
    simp
   have WR := fun W h => bd_write w.heap.size (w.heap.size + 1) (upd x (k + 1)) (decDigits d) W h (by omega)
   rw [← hUn, hS1] at WR
   clear hU0 hstep hHL hHI hd hS1 hn1 hUn hdp hh
   have c1 := hk0.cell 1
   gi_wp2_with (first | (refine ⟨trivial, ?_⟩; gi_at_call 173; refine (CallsIn.inRound l (callsIn_wide.2 (IT _ hHP))).mono ?_; rintro e w2 ⟨rfl, hb2⟩; have c12 := (hk0.below hb2).cell 1) | (refine ⟨trivial, ?_⟩; gi_at_call 175; refine (CallsIn.inRound l (callsIn_wide.2 (WR _ (hbd.below hb2) (by have := hB.size; have := hb2.size; omega)))).mono ?_; rintro e w4 ⟨rfl, hbd4, hb4, hK4, hKB4⟩))
   exact ⟨((keeps_below hb2).trans hK4).from _, (bZs hB hb2).trans (hb4.mono (Nat.le_refl _)), hKB4 _ _ _ (hk2.below hb2) (by decide) (by omega), hKB4 _ _ _ (hk0.below hb2) (by decide) (by omega), hbd4⟩
 case done =>
  rintro D W hD ⟨hB, hk2, hk0, hbd⟩ hK
  have hu0 : upd x 0 = decDigits x := by unfold upd; rw [Nat.pow_zero, Nat.div_one, if_neg (by omega)]
  rw [hu0] at hbd
  have hdn : decDigits x ≠ [] := by
   intro e
   have h9 : 0 < (digs 10 x).length := by rw [digs_pos (by decide) hx]; simp
   have h8 := congrArg List.length (bs_dd x hx)
   rw [e] at h8
   simp only [asc, List.length_map, List.length_reverse, List.length_nil] at h8
   omega
  have ST := bd_string w.heap.size (w.heap.size + 1) (decDigits x) W hbd hdn
  obtain ⟨S, hS⟩ : ∃ S : ByteArray, (⟨(decDigits x).toArray⟩ : ByteArray) = S := ⟨_, rfl⟩
  obtain ⟨n, hn⟩ : ∃ n, S.size = n := ⟨_, rfl⟩
  have hn1 : (decDigits x).length = n := by rw [← hn, ← hS]; rfl
  rw [hS] at ST
  have hix : itx (x : Int) = S := by rw [itx_nat, hS]
  have hen := Aside0.mk (And.intro hn1 hix)
  clear hn1 hix hS
  by_cases hbig : 200 < n
  ·have hbi : (200 : Int) < n := by omega
   gi_wp2_with (refine ⟨trivial, ?_⟩; gi_at_call 176; refine (callsIn_wide.2 ST).mono ?_; rintro e w2 ⟨rfl, hb2, hK2, hKB2⟩)
   have hKD := hK2.same D _ hK rfl
   refine ⟨by simp, .inl ⟨_, _, rfl, run_takeDeferred hKD, ?_⟩⟩
   refine ⟨_, results_tmp2 rfl _ _ _, ?_, below_done (hB.trans hb2) (by omega) hKD⟩
   obtain ⟨rfl, rfl⟩ := HO.out.1 (by rw [hen.out.1]; exact hbig)
   rfl
  ·have hbi : ¬ (200 : Int) < n := by omega
   cases neg
   ·gi_wp2_with (refine ⟨trivial, ?_⟩; gi_at_call 176; refine (callsIn_wide.2 ST).mono ?_; rintro e w2 ⟨rfl, hb2, hK2, hKB2⟩; have hk02 : Blk w2 w.heap.size _ 168 := hKB2 _ _ _ hk0 (by decide) (by omega); have c02 := hk02.cell 0)
    have hKD := hK2.same D _ hK rfl
    refine ⟨by simp, .inl ⟨_, _, rfl, run_takeDeferred hKD, ?_⟩⟩
    refine ⟨_, results_tmp2 rfl _ _ _, ?_, below_done (hB.trans hb2) (by omega) hKD⟩
    obtain ⟨rfl, rfl⟩ := HO.out.2 (by rw [hen.out.1]; exact hbig)
    rw [if_neg (by simp), hen.out.2]
    rfl
   ·gi_wp2_with (refine ⟨trivial, ?_⟩; gi_at_call 176; refine (callsIn_wide.2 ST).mono ?_; rintro e w2 ⟨rfl, hb2, hK2, hKB2⟩; have hk02 : Blk w2 w.heap.size _ 168 := hKB2 _ _ _ hk0 (by decide) (by omega); have c02 := hk02.cell 0)
    have hKD := hK2.same D _ hK rfl
    refine ⟨by simp, .inl ⟨_, _, rfl, run_takeDeferred hKD, ?_⟩⟩
    refine ⟨_, results_tmp2 rfl _ _ _, ?_, below_done (hB.trans hb2) (by omega) hKD⟩
    obtain ⟨rfl, rfl⟩ := HO.out.2 (by rw [hen.out.1]; exact hbig)
    refine Eq.trans (b := Ending.returned (.tuple #[.string (⟨#[45]⟩ ++ S), .int .i64 0])) rfl ?_
    rw [← hen.out.2, ← itx_negN x hx]
    simp
 case stop =>
  rintro D c W hD h _
  exact h.elim
theorem int_text (neg : Bool) (u : Value) (x : Nat) (w : World) (hp : Pow w) (h : Rd w u (digs 10000 x)) (hl : (digs 10000 x).length ≤ 1000) :
  Calls Tryz.prog 115 #[.agg #[.bool neg, u]] w fun e w' => e = .returned (.tuple #[.string (if 200 < (decDigits x).length then ⟨#[]⟩ else itx (if neg then -(x : Int) else x)), .int .i64 (if 200 < (decDigits x).length then 30 else 0)]) ∧ Below w.heap.size w w' := by
 rcases Nat.eq_zero_or_pos x with rfl | hx
 ·have e0 : ¬ 200 < (decDigits 0).length := by rw [dd_1 (by decide)]; decide
  have e1 : itx (if neg then -((0 : Nat) : Int) else ((0 : Nat) : Int)) = (⟨#[48]⟩ : ByteArray) := by cases neg <;> rfl
  rw [if_neg e0, if_neg e0, e1]
  obtain ⟨A, c, rfl, -, -⟩ := h
  rw [digs_zero]
  go_enter Tryz.func115, Tryz.ntmps115
  go_wp2
  go_ret2
  exact ⟨rfl, bZa (Below.refl _ _) _⟩
 ·refine callsIn_wide.1 (text_in neg u x _ _ ⟨?_⟩ w hp h hl hx)
  exact ⟨fun h => ⟨if_pos h, if_pos h⟩, fun h => ⟨if_neg h, if_neg h⟩⟩
end Go.Proofs.YtociicfjhgfgpaaGreatDoor
namespace Go.Proofs.YtociicfjhgfgpaaGreatDoor
open Go.RowKit Go.Proofs.YtociicfjhgfgpaaGreatDoorW.PrintWords
theorem ref03_checked (neg : Bool) (u : Value) (x : Nat) (w : World) (h : Rd w u (digs 10 x)) (hx : (digs 10 x).length ≤ 200) :
  Calls Tryz.prog 144 #[.bool neg, u] w fun e w' => e = .returned (.tuple #[.string (txt neg x), .int .i64 0]) ∧ Below w.heap.size w w' := by
 have hd : decide (((digs 10 x).length : Int) ≤ 200) = true := decide_eq_true (by omega)
 have HT := ref03_text neg u x w h (by omega)
 rw [hd] at HT
 go_enter Tryz.func144, Tryz.ntmps144
 go_wp2_with (go_at_call 134; refine HT.mono ?_; rintro e w2 ⟨rfl, hb2⟩)
 go_ret2
 exact ⟨rfl, hb2⟩
theorem bs_ne0 {x : Nat} (h : x ≠ 0) : ((bs x).toList == [48]) = false := by
 obtain ⟨c, t, he, h1, _⟩ := bs_head h
 have e : (bs x).toList = c :: t := by rw [ByteArray.toList_eq]; exact he
 rw [e]
 apply beq_eq_false_iff_ne.2
 intro hh
 apply h1
 rw [(List.cons.inj hh).1]
 rfl
theorem bs_first {x : Nat} (h : x ≠ 0) : ∃ hp : 0 < (bs x).size, ((bs x)[0]'hp).toNat ≠ 45 ∧ ((bs x)[0]'hp).toNat ≠ 48 := by
 obtain ⟨c, t, he, h1, h2⟩ := bs_head h
 have hs : 0 < (bs x).size := by
  rw [bs_size, digs_pos (by decide) (by omega)]
  simp
 have : (bs x)[0] = c := by
  show (((asc (digs 10 x)).map fun n => UInt8.ofNat n.toNat).toArray)[0]'_ = c
  simp only [he]
  rfl
 exact ⟨hs, by rw [this]; exact h2, by rw [this]; exact h1⟩
structure Body (t : ByteArray) (x : Nat) : Prop where
 size : t.size = (digs 10 x).length
 first : ∀ h : 0 < t.size, ((t[0]'h).toNat : Int) ≠ 45 ∧ ((t[0]'h).toNat : Int) ≠ 48
 ne : (t.toList == [48]) = false
 get : ∀ (i : Nat) (h : i < t.size), (t[i]'h).toNat = x / 10 ^ ((digs 10 x).length - 1 - i) % 10 + 48
theorem bs_body {x : Nat} (h : x ≠ 0) : Body (bs x) x := by
 obtain ⟨hp, h1, h2⟩ := bs_first h
 exact ⟨bs_size x, fun _ => ⟨by omega, by omega⟩, bs_ne0 h, fun i hi => bs_get x i hi⟩
structure Signed (s t : ByteArray) : Prop where
 size : s.size = t.size + 1
 first : ∀ h : 0 < s.size, ((s[0]'h).toNat : Int) = 45
 tail : s.extract 1 s.size = t
theorem txt_signed {x : Nat} (h : x ≠ 0) : Signed (txt true x) (bs x) := by
 rw [txt_neg h]
 refine ⟨?_, fun hh => ?_, nums_tail 45 (asc (digs 10 x))⟩
 ·rw [nums_size, bs_size, List.length_cons, asc_len]
 ·rw [nums_get]
  rfl
theorem ref03_digits (z : Int) (w : World) (hz : (digs 10 z.natAbs).length ≤ 5000) :
  Calls Tryz.prog 141 #[.string (itx z)] w fun e w' => ∃ v, e = .returned (.tuple #[.bool (decide (z < 0)), v]) ∧ Rd w' v (digs 10 z.natAbs) ∧ Below w.heap.size w w' := by
 obtain ⟨x, hx⟩ : ∃ x, z.natAbs = x := ⟨_, rfl⟩
 unfold itx
 rw [hx] at hz ⊢
 by_cases h0 : x = 0
 ·subst h0
  have hneg : decide (z < 0) = false := decide_eq_false (by omega)
  rw [hneg, txt_zero, digs_zero]
  go_enter Tryz.func141, Tryz.ntmps141
  go_wp2
  go_loopg [5, 6] 0 (fun k v5 v6 w' => v5 = .slice none 0 0 ∧ v6 = .int .i64 0 ∧ w' = w)
  case atStart => exact ⟨rfl, rfl, rfl⟩
  obtain ⟨rfl, rfl, rfl⟩ := hrel
  go_wp2
  go_ret2
  exact ⟨_, rfl, (Own.nil _ 0).rd, Below.refl _ _⟩
 ·have hB := bs_body h0
  have hS := txt_signed h0
  obtain ⟨t, ht⟩ : ∃ t, bs x = t := ⟨_, rfl⟩
  rw [ht] at hB hS
  have hpos : 0 < (digs 10 x).length := by
   rw [digs_pos (by decide) (by omega)]
   simp
  have hsz := hB.size
  have hp : 0 < t.size := by rw [hsz]; exact hpos
  have hne := hB.ne
  by_cases hneg : z < 0
  ·rw [decide_eq_true hneg]
   obtain ⟨s, hs⟩ : ∃ s, txt true x = s := ⟨_, rfl⟩
   rw [hs] at hS ⊢
   have hs1 := hS.size
   have hs4 : 0 < s.size := by omega
   have hs2 := hS.first hs4
   have hs3 := hS.tail
   clear hs ht
   rw [hs1, hsz] at hs3
   have hw0 : wrap64 (((digs 10 x).length : Int) - 1) = ((digs 10 x).length : Int) - 1 := by unfold wrap64; omega
   have hBody := Aside0.mk hB
   clear hB hS
   go_enter Tryz.func141, Tryz.ntmps141
   go_wp2
   go_loopg [5, 6] (digs 10 x).length (fun k v5 v6 w' => ∃ j : Nat, k + j = (digs 10 x).length ∧ v6 = .int .i64 ((k : Int) - 1) ∧ Own w' w.heap.size v5 (low 10 x j) ∧ Below w.heap.size w w')
   case atStart => exact ⟨0, by omega, by go_num, Own.nil _ _, Below.refl _ _⟩
   obtain ⟨j, hk, rfl, HO, HB⟩ := hrel
   clear hw0
   cases gk with
   | zero =>
    have HL : Aside0 (low 10 x j = digs 10 x) := ⟨by rw [show j = (digs 10 x).length by omega]; exact low_digs (by decide) x⟩
    go_wp2
    go_ret2
    exact ⟨_, rfl, by have h9 := HO.rd; rw [HL.out] at h9; exact h9, HB⟩
   | succ m =>
    rw [show ((m + 1 : Nat) : Int) - 1 = (m : Int) by omega]
    have hmt : m < t.size := by omega
    have hg := hBody.out.get m hmt
    rw [show (digs 10 x).length - 1 - m = j by omega] at hg
    obtain ⟨d, ed⟩ : ∃ d, x / 10 ^ j % 10 = d := ⟨_, rfl⟩
    have hd : d < 10 := by rw [← ed]; exact Nat.mod_lt _ (by decide)
    rw [ed] at hg
    have hwm : wrap64 ((m : Int) - 1) = (m : Int) - 1 := by unfold wrap64; omega
    have hmi : (m : Int) < ((digs 10 x).length : Int) := by omega
    have HS : Aside0 (low 10 x j ++ [(d : Int)] = low 10 x (j + 1)) := ⟨by rw [low_succ, ed]⟩
    have HN : Aside0 ((low 10 x j).length < 17592186044415) := ⟨by rw [low_len]; omega⟩
    clear ed
    go_wp2_with (at_builtin; refine app1 (w0 := w) w.heap.size (.tmp 24) (.tmp 30) 165 rfl rfl Tryz.underlying165 _ _ _ rfl rfl HO HB HB.size HN.out ?_; intro v2 w2 ho2 hb2 hg2)
    clear hg2
    go_roundg m
    case measure => omega
    case rel => exact ⟨j + 1, by omega, by go_num, by rw [← HS.out]; first | exact ho2 | (rw [show (d : Int) = d + 48 - 48 by omega]; exact ho2) | (rw [show (d : Int) = (d + 48 - 48) % 256 by omega]; exact ho2), hb2⟩
  ·rw [decide_eq_false hneg, txt_pos h0, ht]
   have hf := (hB.first hp).1
   have hw0 : wrap64 (((digs 10 x).length : Int) - 1) = ((digs 10 x).length : Int) - 1 := by unfold wrap64; omega
   have hBody := Aside0.mk hB
   clear ht hB hS
   go_enter Tryz.func141, Tryz.ntmps141
   go_wp2
   go_loopg [5, 6] (digs 10 x).length (fun k v5 v6 w' => ∃ j : Nat, k + j = (digs 10 x).length ∧ v6 = .int .i64 ((k : Int) - 1) ∧ Own w' w.heap.size v5 (low 10 x j) ∧ Below w.heap.size w w')
   case atStart => exact ⟨0, by omega, by go_num, Own.nil _ _, Below.refl _ _⟩
   obtain ⟨j, hk, rfl, HO, HB⟩ := hrel
   clear hw0
   cases gk with
   | zero =>
    have HL : Aside0 (low 10 x j = digs 10 x) := ⟨by rw [show j = (digs 10 x).length by omega]; exact low_digs (by decide) x⟩
    go_wp2
    go_ret2
    exact ⟨_, rfl, by have h9 := HO.rd; rw [HL.out] at h9; exact h9, HB⟩
   | succ m =>
    rw [show ((m + 1 : Nat) : Int) - 1 = (m : Int) by omega]
    have hmt : m < t.size := by omega
    have hg := hBody.out.get m hmt
    rw [show (digs 10 x).length - 1 - m = j by omega] at hg
    obtain ⟨d, ed⟩ : ∃ d, x / 10 ^ j % 10 = d := ⟨_, rfl⟩
    have hd : d < 10 := by rw [← ed]; exact Nat.mod_lt _ (by decide)
    rw [ed] at hg
    have hwm : wrap64 ((m : Int) - 1) = (m : Int) - 1 := by unfold wrap64; omega
    have hmi : (m : Int) < ((digs 10 x).length : Int) := by omega
    have HS : Aside0 (low 10 x j ++ [(d : Int)] = low 10 x (j + 1)) := ⟨by rw [low_succ, ed]⟩
    have HN : Aside0 ((low 10 x j).length < 17592186044415) := ⟨by rw [low_len]; omega⟩
    clear ed
    go_wp2_with (at_builtin; refine app1 (w0 := w) w.heap.size (.tmp 24) (.tmp 30) 165 rfl rfl Tryz.underlying165 _ _ _ rfl rfl HO HB HB.size HN.out ?_; intro v2 w2 ho2 hb2 hg2)
    clear hg2
    go_roundg m
    case measure => omega
    case rel => exact ⟨j + 1, by omega, by go_num, by rw [← HS.out]; first | exact ho2 | (rw [show (d : Int) = d + 48 - 48 by omega]; exact ho2) | (rw [show (d : Int) = (d + 48 - 48) % 256 by omega]; exact ho2), hb2⟩
end Go.Proofs.YtociicfjhgfgpaaGreatDoor

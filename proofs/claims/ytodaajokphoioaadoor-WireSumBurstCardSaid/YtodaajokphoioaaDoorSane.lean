/- What Int and String accept, in the words of codes; PutString; pick and NumberFrom; the fixed examples (sane) answer true. Plain lists and numbers. -/
import Derived.Test.YtodaajokphoioaaDoorSpec
import Derived.OpenShut
namespace Go.Proofs.YtodaajokphoioaaDoor.L
open Go.RowKit Go.Proofs.YtodaajokphoioaaDoor Go.Proofs.YtodaajokphoioaaDoorW.PrintWords

def InR (n : Int) : Prop := -4611686018427387903 ≤ n ∧ n ≤ 4611686018427387903

theorem zz_inR {n : Int} (h : InR n) : zz n < 9223372036854775807 := zz_lt n h.1 h.2

theorem int_ok {s : ByteArray} {p : Nat} (hp : p ≤ s.size) {n : Int} (hn : InR n) {r : List Nat} (h : bys s p = lebN (zz n) ++ r) : intSpec s (p : Int) = (n, ((p + (lebN (zz n)).length : Nat) : Int), 0) := by
  have hz := zz_inR hn
  obtain ⟨q, b, h1, h2, h3, h4⟩ := scan_leb (zz n) 9 r (lebN_le9 (by omega))
  unfold intSpec
  rw [if_neg (by omega), Int.toNat_natCast, h, h2]
  simp only [intEnd]
  rw [h4, unz_zz, h1, if_neg]
  · simp
    omega
  · rintro (⟨h5, h6⟩ | h5)
    · rcases h3 with h3 | h3
      · exact h3 h5
      · exact h6 h3
    · omega

theorem int_inv (s : ByteArray) (a : Int) : (∃ n : Int, InR n ∧ 0 ≤ a ∧ a ≤ s.size ∧ intSpec s a = (n, ((a.toNat + (lebN (zz n)).length : Nat) : Int), 0) ∧ (∃ r, bys s a.toNat = lebN (zz n) ++ r) ∧ a.toNat + (lebN (zz n)).length ≤ s.size) ∨
    intSpec s a = (0, 0, 10) ∨ (intSpec s a = (0, 0, 2) ∧ (a < 0 ∨ (s.size : Int) < a)) := by
  unfold intSpec
  by_cases h : a < 0 ∨ (s.size : Int) < a
  · rw [if_pos h]
    exact Or.inr (Or.inr ⟨rfl, h⟩)
  · rw [if_neg h]
    obtain ⟨p, rfl⟩ := Int.eq_ofNat_of_zero_le (show 0 ≤ a by omega)
    rw [Int.toNat_natCast]
    cases hs : scan 9 (bys s p) with
    | none => exact Or.inr (Or.inl rfl)
    | some q =>
      obtain ⟨q, b⟩ := q
      obtain ⟨r, h1, h2, h3, h4⟩ := scan_some hs
      simp only [intEnd]
      split
      · exact Or.inr (Or.inl rfl)
      · rename_i hne
        left
        have hz := val_lt (q ++ [b])
        have hz2 : val (q ++ [b]) < 9223372036854775808 := by
          have h9 : (q ++ [b]).length ≤ 9 := by simp; omega
          have := Nat.pow_le_pow_right (show 0 < 128 by decide) h9
          omega
        have hb := unz_bd _ hz2
        have hl : ¬ unz (val (q ++ [b])) < -4611686018427387903 := fun h => by
          rcases (unz_low _).1 h with h | h
          · exact hne (Or.inr h)
          · omega
        have hq : ∀ x ∈ q, 128 ≤ x ∧ x < 256 := fun x hx => ⟨h2 x hx, bys_lt s p x (by rw [h1]; simp [hx])⟩
        have he := (leb_here q b hq h3).2 (fun h => hne (Or.inl h))
        have hlen : (bys s p).length = s.size - p := bys_length s p
        rw [h1] at hlen
        simp at hlen
        refine ⟨unz (val (q ++ [b])), ⟨by omega, by omega⟩, by omega, by omega, ?_, ⟨r, ?_⟩, ?_⟩
        · rw [zz_unz, he]
          simp
          omega
        · rw [zz_unz, he, h1]
          simp
        · rw [zz_unz, he]
          simp
          omega

/-! ### String -/
def strSpec (s : ByteArray) (a : Int) : ByteArray × Int × Int :=
  if (intSpec s a).2.2 = 0 then (if (intSpec s a).1 < 0 ∨ 65536 < (intSpec s a).1 ∨ (s.size : Int) - (intSpec s a).2.1 < (intSpec s a).1 then (⟨#[]⟩, 0, 10)
    else (s.extract (intSpec s a).2.1.toNat ((intSpec s a).2.1 + (intSpec s a).1).toNat, (intSpec s a).2.1 + (intSpec s a).1, 0)) else (⟨#[]⟩, 0, (intSpec s a).2.2)

theorem string_body (s : ByteArray) (hs : s.size ≤ 4611686018427387904) (a : Int) :
    (if (intSpec s a).2.2 = 0 then (if (intSpec s a).1 < 0 then (some ((⟨#[]⟩ : ByteArray), (0 : Int), (10 : Int))) else (if (intSpec s a).1 > 65536 then (some ((⟨#[]⟩ : ByteArray), 0, 10)) else (if (intSpec s a).1 > (wrap64 ((s.size : Int) - (intSpec s a).2.1)) then (some ((⟨#[]⟩ : ByteArray), 0, 10)) else (if 0 ≤ (intSpec s a).2.1 then (if (intSpec s a).2.1 ≤ (wrap64 ((intSpec s a).2.1 + (intSpec s a).1)) then (if (wrap64 ((intSpec s a).2.1 + (intSpec s a).1)) ≤ (s.size : Int) then (some (s.extract ((intSpec s a).2.1 : Int).toNat ((wrap64 ((intSpec s a).2.1 + (intSpec s a).1)) : Int).toNat, wrap64 ((intSpec s a).2.1 + (intSpec s a).1), 0)) else (none)) else (none)) else (none))))) else (some ((⟨#[]⟩ : ByteArray), 0, (intSpec s a).2.2)))
    = some (strSpec s a) := by
  unfold strSpec
  rcases int_inv s a with ⟨n, hn, h0, h1, he, _, hle⟩ | he | ⟨he, _⟩
  · rw [he]
    obtain ⟨hn0, hn1⟩ := hn
    generalize a.toNat + (lebN (zz n)).length = x at hle
    dsimp only
    have w1 : wrap64 ((s.size : Int) - (x : Int)) = (s.size : Int) - (x : Int) := by unfold wrap64; omega
    rw [if_pos rfl, if_pos rfl, w1]
    by_cases c1 : n < 0
    · rw [if_pos c1, if_pos (Or.inl c1)]
    · rw [if_neg c1]
      by_cases c2 : 65536 < n
      · rw [if_pos c2, if_pos (Or.inr (Or.inl c2))]
      · rw [if_neg (show ¬ n > 65536 by omega)]
        by_cases c3 : (s.size : Int) - (x : Int) < n
        · rw [if_pos c3, if_pos (Or.inr (Or.inr c3))]
        · have w2 : wrap64 ((x : Int) + n) = (x : Int) + n := by unfold wrap64; omega
          rw [if_neg (show ¬ n > (s.size : Int) - (x : Int) by omega), w2, if_pos (show 0 ≤ (x : Int) by omega), if_pos (show (x : Int) ≤ (x : Int) + n by omega), if_pos (show (x : Int) + n ≤ (s.size : Int) by omega), if_neg (by omega)]
  · rw [he]
    rfl
  · rw [he]
    rfl

theorem wire_String_spec (s : ByteArray) (hs : s.size ≤ 4611686018427387904) (a : Int) (k : Nat) (hk : 12 ≤ k) : wire_String.f k s a = some (strSpec s a) := by
  unfold wire_String.f
  rw [wire_Int_spec s hs a k hk]
  exact string_body s hs a
theorem ref_String_spec (s : ByteArray) (hs : s.size ≤ 4611686018427387904) (a : Int) (k : Nat) (hk : 50 ≤ k) : workpieceref01_String.f k s a = some (strSpec s a) := by
  unfold workpieceref01_String.f
  rw [ref_Int_spec s hs a k hk]
  exact string_body s hs a

/-- The code of a string. -/
def encS (s : ByteArray) : ByteArray := strOfNums (leb (zz s.size)) ++ s

theorem encS_size (s : ByteArray) : (encS s).size = (leb (zz s.size)).length + s.size := by
  unfold encS
  rw [ByteArray.size_append, strOfNums_size]

theorem wire_PutString_spec (s : ByteArray) (h : s.size ≤ 65536) : wire_PutString.f s = some (encS s, 0) := by
  unfold wire_PutString.f
  rw [if_neg (by omega)]
  have e : wire_PutInt.f (s.size : Int) = some (strOfNums (leb (zz s.size)), 0) := by unfold wire_PutInt.f; rw [if_pos (by omega)]
  have hl := leb_len 9 (zz (s.size : Int)) (by have := zz_lt (s.size : Int) (by omega) (by omega); omega)
  rw [e]
  simp only [Option.bind_some]
  rw [if_pos (by rw [strOfNums_size]; omega)]
  rfl
theorem wire_PutString_big (s : ByteArray) (h : 65536 < s.size) : wire_PutString.f s = some (⟨#[]⟩, 10) := by
  unfold wire_PutString.f
  rw [if_pos (by omega)]
theorem ref_PutString_spec (s : ByteArray) (k : Nat) (hk : 14 ≤ k) : workpieceref01_PutString.f k s = wire_PutString.f s := by
  unfold wire_PutString.f workpieceref01_PutString.f
  rw [ref_PutInt_spec _ k hk]

/-! ### pick, NumberFrom -/
theorem pick_spec (c n : Int) (hc : -9223372036854775808 ≤ c ∧ c ≤ 9223372036854775807) (hn : 0 < n) : ∃ p, workpiecelaw01_pick.f c n = some p ∧ 0 ≤ p ∧ p < n := by
  unfold workpiecelaw01_pick.f
  have h0 : ¬ n = 0 := by omega
  by_cases h : c < 0
  · rw [if_pos h, if_neg h0]
    have e : wrap64 (-(wrap64 (c + 1))) = -(c + 1) := by
      have e1 : wrap64 (c + 1) = c + 1 := by unfold wrap64; omega
      rw [e1]
      unfold wrap64
      omega
    rw [e, Int.tmod_eq_emod_of_nonneg (by omega)]
    exact ⟨_, rfl, Int.emod_nonneg _ (by omega), Int.emod_lt_of_pos _ hn⟩
  · rw [if_neg h, if_neg h0, Int.tmod_eq_emod_of_nonneg (by omega)]
    exact ⟨_, rfl, Int.emod_nonneg _ (by omega), Int.emod_lt_of_pos _ hn⟩

theorem wf_bd {a : Int} (h : (Lit.int .i64 a).wf = true) : -9223372036854775808 ≤ a ∧ a ≤ 9223372036854775807 := bounds_i64 h

theorem number_spec (c : Int) (hc : -9223372036854775808 ≤ c ∧ c ≤ 9223372036854775807) : ∃ n, workpiecelaw01_NumberFrom.f c = some n ∧ InR n := by
  unfold workpiecelaw01_NumberFrom.f
  obtain ⟨p, hp, hp0, hp1⟩ := pick_spec c 4611686018427387904 hc (by decide)
  obtain ⟨q, hq, hq0, hq1⟩ := pick_spec c 8 hc (by decide)
  obtain ⟨u, hu, hu0, hu1⟩ := pick_spec c 16 hc (by decide)
  rw [hp, hq, hu]
  simp only [Option.bind_some]
  rw [if_pos hq0, if_pos (by simpa using hq1)]
  have hr : 0 < rd ([64, 128, 8192, 16384, 1073741824, 36028797018963968, 576460752303423488, 2] : List Int) q ∧ rd ([64, 128, 8192, 16384, 1073741824, 36028797018963968, 576460752303423488, 2] : List Int) q ≤ 576460752303423488 := by
    obtain ⟨m, rfl⟩ := Int.eq_ofNat_of_zero_le hq0
    have : m < 8 := by omega
    have hall : ∀ m : Nat, m < 8 → 0 < rd ([64, 128, 8192, 16384, 1073741824, 36028797018963968, 576460752303423488, 2] : List Int) (m : Int) ∧ rd ([64, 128, 8192, 16384, 1073741824, 36028797018963968, 576460752303423488, 2] : List Int) (m : Int) ≤ 576460752303423488 := by decide
    exact hall m this
  have hw : wrap64 (Int.tdiv p 8) = p / 8 := by
    rw [Int.tdiv_eq_ediv_of_nonneg hp0]
    unfold wrap64
    omega
  rw [hw]
  obtain ⟨v, hv, hv0, hv1⟩ := pick_spec (p / 8) (rd ([64, 128, 8192, 16384, 1073741824, 36028797018963968, 576460752303423488, 2] : List Int) q) (by omega) hr.1
  rw [hv]
  simp only [Option.bind_some]
  by_cases h8 : u ≥ 8
  · rw [if_pos h8]
    refine ⟨_, rfl, ?_⟩
    unfold InR wrap64
    omega
  · rw [if_neg h8]
    refine ⟨_, rfl, ?_⟩
    unfold InR
    omega

/-! ### The fixed examples -/
theorem leb_127 : leb 127 = [127] := by rw [leb, if_pos (by decide)]; rfl
theorem leb_128 : leb 128 = [128, 1] := by rw [leb, if_neg (by decide), leb, if_pos (by decide)]; rfl
theorem leb_4 : leb 4 = [4] := by rw [leb, if_pos (by decide)]; rfl
theorem sane_1 : wire_PutInt.f (-64) = some (strOfNums [127], 0) := by
  unfold wire_PutInt.f
  rw [if_pos (by decide), show zz (-64) = 127 by decide, leb_127]
theorem sane_2 : wire_PutInt.f 64 = some (strOfNums [128, 1], 0) := by
  unfold wire_PutInt.f
  rw [if_pos (by decide), show zz 64 = 128 by decide, leb_128]
theorem sane_3 : wire_PutInt.f 4611686018427387904 = some (⟨#[]⟩, 10) := by
  unfold wire_PutInt.f
  rw [if_neg (by decide)]
theorem sane_4 : wire_PutString.f (⟨#[97, 98]⟩ : ByteArray) = some (encS (⟨#[97, 98]⟩ : ByteArray), 0) := wire_PutString_spec _ (by decide)
theorem sane_4b : (encS (⟨#[97, 98]⟩ : ByteArray)).toList = [4, 97, 98] := by
  unfold encS
  rw [show zz ((⟨#[97, 98]⟩ : ByteArray).size : Int) = 4 by decide, leb_4, ByteArray.toList_eq]
  rfl
theorem sane_5 : intSpec (⟨#[97, 172, 2, 98]⟩ : ByteArray) 1 = (150, 3, 0) := by decide +kernel
theorem sane_6 : intSpec (⟨#[128, 0]⟩ : ByteArray) 0 = (0, 0, 10) := by decide +kernel
theorem sane_7 : strSpec (⟨#[4, 97, 98, 99]⟩ : ByteArray) 0 = ((⟨#[4, 97, 98, 99]⟩ : ByteArray).extract 1 3, 3, 0) := by
  unfold strSpec
  rw [show intSpec (⟨#[4, 97, 98, 99]⟩ : ByteArray) 0 = (2, 1, 0) by decide +kernel]
  rfl
theorem sane_7b : ((⟨#[4, 97, 98, 99]⟩ : ByteArray).extract 1 3).toList = [97, 98] := by
  rw [ByteArray.toList_eq, ByteArray.data_extract, Array.toList_extract]
  rfl
theorem sane_8 : strSpec (⟨#[4, 97]⟩ : ByteArray) 0 = (⟨#[]⟩, 0, 10) := by
  unfold strSpec
  rw [show intSpec (⟨#[4, 97]⟩ : ByteArray) 0 = (2, 1, 0) by decide +kernel]
  rfl
theorem sane_9 : intSpec (⟨#[]⟩ : ByteArray) 1 = (0, 0, 2) := by decide +kernel
theorem sane_10 : wire_Sum.f (⟨#[49, 50, 51, 52, 53, 54, 55, 56, 57]⟩ : ByteArray) = some 3808858755 := by
  unfold wire_Sum.f
  rw [if_pos (by decide)]
  congr 1
theorem toList_num (l : List Int) : (strOfNums l).toList = l.map fun n => UInt8.ofNat n.toNat := by rw [ByteArray.toList_eq, strOfNums_data]

theorem sane_spec (k : Nat) (hk : 12 ≤ k) : workpiecelaw01_sane.f k = some true := by
  unfold workpiecelaw01_sane.f
  rw [sane_1, sane_2, sane_3, sane_4, wire_Int_spec _ (by decide) _ k hk, wire_Int_spec _ (by decide) _ k hk, wire_Int_spec _ (by decide) _ k hk, wire_String_spec _ (by decide) _ k hk, wire_String_spec _ (by decide) _ k hk, sane_5, sane_6, sane_7, sane_8, sane_9, sane_10]
  simp only [Option.bind_some, sane_4b, sane_7b, toList_num]
  decide

theorem mono_le {α : Type} {f : Nat → Option α} (h : ∀ k, LeO (f k) (f (k + 1))) (j : Nat) : ∀ k r, f k = some r → f (k + j) = some r := by
  induction j with
  | zero => exact fun _ _ h => h
  | succ j ih => exact fun k r hr => h (k + j) r (ih k r hr)

theorem sane_is {k : Nat} {t : Bool} (h : workpiecelaw01_sane.f k = some t) : t = true := by
  have h1 := mono_le (f := workpiecelaw01_sane.f) (fun k => workpiecelaw01_sane.mono k) 12 k t h
  rw [sane_spec (k + 12) (by omega)] at h1
  exact (Option.some.inj h1).symm

theorem pick_to {c W P t : Int} (e : W = P) (h : workpiecelaw01_pick.f c P = some t) : workpiecelaw01_pick.f c W = some t := by rw [e]; exact h

/-- In a region that draws its order: an operation that comes to a value. -/
theorem val_ {P : Program} {ops : Array Oper} {Q : Exit → Act → World → Prop} {oi : Oper} {N : Option Tmp} {a : Act} {w : World} {K : Act → World → Prop} {v : Value} (hw : Region.wanted oi (yielded ops a.tmps) = true) (hN : oi.dst = N) (hrun : (execOp a.eval oi).run P w = .ok (.value v) w)
    (h : K (a.put N v) w) : if Region.wanted oi (yielded ops a.tmps) = true then Oper.wp P oi a w K Q else K (a.put N undef) w := by
  rw [if_pos hw]
  subst hN
  unfold Oper.wp
  rw [hrun, Oper.upon_value]
  exact h

end Go.Proofs.YtodaajokphoioaaDoor.L

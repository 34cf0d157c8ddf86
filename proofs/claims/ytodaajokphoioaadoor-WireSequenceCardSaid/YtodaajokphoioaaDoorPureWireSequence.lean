/- WireSequence over plain numbers and lists: a concatenation of codes is decoded step by step. -/
import Derived.Test.YtodaajokphoioaaDoorLx7
import Derived.Test.YtodaajokphoioaaDoorFacts
namespace Go.Proofs.YtodaajokphoioaaDoor.Pure
open Go.RowKit Go.Proofs.YtodaajokphoioaaDoor Go.Proofs.YtodaajokphoioaaDoor.L Go.Proofs.YtodaajokphoioaaDoorW.PrintWords

theorem sq_mn (n m : Nat) : ∃ k : Nat, mn (n : Int) (m : Int) = (k : Int) ∧ k ≤ n ∧ k ≤ m := by
  unfold mn
  split
  · exact ⟨m, rfl, by omega, Nat.le_refl _⟩
  · exact ⟨n, rfl, Nat.le_refl _, by omega⟩

/-- The i-th number and the i-th text, as the law takes them. -/
def sqN (xs : List Int) (i : Nat) : Int := (workpiecelaw01_NumberFrom.f (rd xs (i : Int))).getD 0
def sqT (ts : List ByteArray) (i : Nat) : ByteArray := (rdOf ByteArray.empty ts (i : Int)).extract 0 (mn ((rdOf ByteArray.empty ts (i : Int)).size : Int) 100).toNat

theorem sqN_spec (xs : List Int) (hx : ∀ x ∈ xs, -9223372036854775808 ≤ x ∧ x ≤ 9223372036854775807) (i : Nat) (hi : i < xs.length) : workpiecelaw01_NumberFrom.f (rd xs (i : Int)) = some (sqN xs i) ∧ InR (sqN xs i) := by
  have hm : rd xs (i : Int) ∈ xs := by
    unfold rd
    rw [Int.toNat_natCast, List.getD_eq_getElem?_getD, List.getElem?_eq_getElem hi]
    exact List.getElem_mem hi
  obtain ⟨n, hn, hr⟩ := number_spec _ (hx _ hm)
  unfold sqN
  rw [hn]
  exact ⟨rfl, hr⟩
theorem sqT_size (ts : List ByteArray) (i : Nat) : (sqT ts i).size ≤ 100 := by
  unfold sqT
  obtain ⟨k, hk, _, hk2⟩ := sq_mn (rdOf ByteArray.empty ts (i : Int)).size 100
  have hk' : mn ((rdOf ByteArray.empty ts (i : Int)).size : Int) 100 = (k : Int) := hk
  rw [hk', Int.toNat_natCast, ByteArray.size_extract]
  omega

/-- The codes from the i-th on, d of them. -/
def sqTail (xs : List Int) (ts : List ByteArray) : Nat → Nat → ByteArray
  | 0, _ => ⟨#[]⟩
  | d + 1, i => (strOfNums (leb (zz (sqN xs i))) ++ encS (sqT ts i)) ++ sqTail xs ts d (i + 1)

theorem code_le (n : Int) (h : InR n) : (strOfNums (leb (zz n))).size ≤ 9 := by
  rw [code_size]
  exact lebN_le9 (by have := zz_inR h; omega)
theorem encS_le (t : ByteArray) (h : t.size ≤ 100) : (encS t).size ≤ 109 := by
  rw [encS_size, ← lebN_length]
  have := lebN_le9 (z := zz (t.size : Int)) (by have := zz_lt (t.size : Int) (by omega) (by omega); omega)
  omega

theorem sqTail_size (xs : List Int) (ts : List ByteArray) (hx : ∀ x ∈ xs, -9223372036854775808 ≤ x ∧ x ≤ 9223372036854775807) : ∀ d i, i + d ≤ xs.length → (sqTail xs ts d i).size ≤ 118 * d
  | 0, _, _ => Nat.le_of_eq rfl
  | d + 1, i, h => by
    have ih := sqTail_size xs ts hx d (i + 1) (by omega)
    have h1 := code_le _ (sqN_spec xs hx i (by omega)).2
    have h2 := encS_le _ (sqT_size ts i)
    simp only [sqTail, ByteArray.size_append]
    omega

/-- The first loop puts the codes behind what is there. -/
theorem sq_l0 (xs : List Int) (ts : List ByteArray) (hx : ∀ x ∈ xs, -9223372036854775808 ≤ x ∧ x ≤ 9223372036854775807) (n : Nat) (h1 : n ≤ xs.length) (h2 : n ≤ ts.length) (h3 : n ≤ 20) (ok : Bool) (k : Nat) (d : Nat) : ∀ (i : Nat) (s : ByteArray), i + d = n → s.size ≤ 118 * i →
    workpiecelaw01_WireSequence.l0 (k + 1 + d) xs ts ok (n : Int) s (i : Int) = workpiecelaw01_WireSequence.l1 k xs ts ok (n : Int) (s ++ sqTail xs ts d i) 0 0 := by
  induction d with
  | zero =>
    intro i s hi hs
    simp only [workpiecelaw01_WireSequence.l0]
    rw [if_neg (by omega)]
    have e : s ++ sqTail xs ts 0 i = s := by
      apply bytes_inj
      rw [bys_append _ _ _ (Nat.zero_le _)]
      simp [sqTail, bys]
    rw [e]
  | succ d ih =>
    intro i s hi hs
    rw [show k + 1 + (d + 1) = (k + 1 + d) + 1 by omega]
    simp only [workpiecelaw01_WireSequence.l0]
    have e1 : wrap64 ((i : Int) + 1) = ((i + 1 : Nat) : Int) := by unfold wrap64; omega
    obtain ⟨hn, hr⟩ := sqN_spec xs hx i (by omega)
    have ht := sqT_size ts i
    obtain ⟨c, hc, hc1, hc2⟩ := sq_mn (rdOf ByteArray.empty ts (i : Int)).size 100
    have hc' : mn ((rdOf ByteArray.empty ts (i : Int)).size : Int) 100 = (c : Int) := hc
    have hT : (rdOf ByteArray.empty ts (i : Int)).extract 0 (c : Int).toNat = sqT ts i := by
      unfold sqT
      rw [hc']
    rw [if_pos (show (i : Int) < (n : Int) by omega), if_pos (show 0 ≤ (i : Int) by omega), if_pos (show (i : Int) < (xs.length : Int) by omega), hn, hc', hT]
    simp only [Option.bind_some]
    rw [put_ok hr]
    simp only [Option.bind_some]
    rw [if_pos (show (i : Int) < (ts.length : Int) by omega), if_pos (show 0 ≤ (c : Int) by omega), if_pos (show (c : Int) ≤ ((rdOf ByteArray.empty ts (i : Int)).size : Int) by omega), wire_PutString_spec _ (by omega)]
    simp only [Option.bind_some, if_true]
    have l1 := code_le _ hr
    have l2 := encS_le _ ht
    rw [if_pos (by omega), if_pos (by rw [ByteArray.size_append]; omega), e1, ih (i + 1) _ (by omega) (by rw [ByteArray.size_append, ByteArray.size_append]; omega)]
    congr 1
    simp only [sqTail, ByteArray.append_assoc]

/-- The second loop takes them back. -/
theorem sq_l1 (xs : List Int) (ts : List ByteArray) (hx : ∀ x ∈ xs, -9223372036854775808 ≤ x ∧ x ≤ 9223372036854775807) (n : Nat) (h1 : n ≤ xs.length) (h2 : n ≤ ts.length) (h3 : n ≤ 20) (X : ByteArray) (hX : X.size ≤ 4000) (k : Nat) (hk : 50 ≤ k) (d : Nat) : ∀ (i p : Nat), i + d = n → p + (sqTail xs ts d i).size = X.size → bys X p = bys (sqTail xs ts d i) 0 →
    workpiecelaw01_WireSequence.l1 (k + 1 + d) xs ts true (n : Int) X (p : Int) (i : Int) = some true := by
  induction d with
  | zero =>
    intro i p hi hp hb
    simp only [workpiecelaw01_WireSequence.l1]
    have hz : (sqTail xs ts 0 i).size = 0 := rfl
    have e : intSpec X (p : Int) = (0, 0, 10) := by
      unfold intSpec
      rw [if_neg (by omega), Int.toNat_natCast, bys_nil (by omega)]
      rfl
    rw [if_neg (by omega), wire_Int_spec X (by omega) _ _ (by omega), e]
    simp only [Option.bind_some, if_true]
    rw [if_pos (by omega)]
    rfl
  | succ d ih =>
    intro i p hi hp hb
    rw [show k + 1 + (d + 1) = (k + 1 + d) + 1 by omega]
    simp only [workpiecelaw01_WireSequence.l1]
    have e1 : wrap64 ((i : Int) + 1) = ((i + 1 : Nat) : Int) := by unfold wrap64; omega
    obtain ⟨hn, hr⟩ := sqN_spec xs hx i (by omega)
    have ht := sqT_size ts i
    obtain ⟨c, hc, hc1, hc2⟩ := sq_mn (rdOf ByteArray.empty ts (i : Int)).size 100
    have hc' : mn ((rdOf ByteArray.empty ts (i : Int)).size : Int) 100 = (c : Int) := hc
    have hT : (rdOf ByteArray.empty ts (i : Int)).extract 0 (c : Int).toNat = sqT ts i := by
      unfold sqT
      rw [hc']
    have hcs := code_size (sqN xs i)
    simp only [sqTail, ByteArray.size_append] at hp
    rw [sqTail, bys_append _ _ _ (Nat.zero_le _), bys_append _ _ _ (Nat.zero_le _), bys_code, List.append_assoc] at hb
    have hI := int_ok (s := X) (p := p) (by omega) hr hb
    have hb2 : bys X (p + (lebN (zz (sqN xs i))).length) = bys (encS (sqT ts i)) 0 ++ bys (sqTail xs ts d (i + 1)) 0 := by
      rw [← bys_drop, hb, List.drop_append_of_le_length (Nat.le_refl _), List.drop_length, List.nil_append]
    have hS := str_ok (s := X) (t := sqT ts i) (p := p + (lebN (zz (sqN xs i))).length) (by omega) (by omega) hb2
    have hb3 : bys X (p + (lebN (zz (sqN xs i))).length + (encS (sqT ts i)).size) = bys (sqTail xs ts d (i + 1)) 0 := by
      rw [← bys_drop, hb2, List.drop_append, List.drop_of_length_le (by rw [bys_length]; omega), List.nil_append, bys_length, Nat.sub_zero, Nat.sub_self, List.drop_zero]
    rw [if_pos (show (i : Int) < (n : Int) by omega), wire_Int_spec X (by omega) _ _ (by omega), hI]
    simp only [Option.bind_some]
    rw [wire_String_spec X (by omega) _ _ (by omega), hS]
    simp only [Option.bind_some, if_true]
    rw [if_pos (show 0 ≤ (i : Int) by omega), if_pos (show (i : Int) < (xs.length : Int) by omega), hn]
    simp only [Option.bind_some, if_true]
    rw [if_pos (show (i : Int) < (ts.length : Int) by omega), hc', if_pos (show 0 ≤ (c : Int) by omega), if_pos (show (c : Int) ≤ ((rdOf ByteArray.empty ts (i : Int)).size : Int) by omega), hT, if_pos rfl, e1]
    exact ih (i + 1) _ (by omega) (by omega) hb3

theorem WireSequence (xs : List Int) (ts : List ByteArray) (hx : ∀ x ∈ xs, -9223372036854775808 ≤ x ∧ x ≤ 9223372036854775807) : ∃ k, workpiecelaw01_WireSequence.f k xs ts = some true := by
  obtain ⟨m, hm, hm1, hm2⟩ := sq_mn xs.length ts.length
  obtain ⟨n, hn, hn1, hn2⟩ := sq_mn m 20
  have hn' : mn (m : Int) 20 = (n : Int) := hn
  refine ⟨(50 + 1 + n) + 1 + n, ?_⟩
  unfold workpiecelaw01_WireSequence.f
  rw [sane_spec _ (by omega), hm, hn']
  simp only [Option.bind_some]
  have hsz := sqTail_size xs ts hx n 0 (by omega)
  have e := sq_l0 xs ts hx n (by omega) (by omega) hn2 true (50 + 1 + n) n 0 ⟨#[]⟩ (by omega) (Nat.le_of_eq rfl)
  refine Eq.trans e ?_
  have e2 : (⟨#[]⟩ : ByteArray) ++ sqTail xs ts n 0 = sqTail xs ts n 0 := by
    apply bytes_inj
    rw [bys_append _ _ _ (Nat.zero_le _)]
    simp [bys]
  rw [e2]
  exact sq_l1 xs ts hx n (by omega) (by omega) hn2 (sqTail xs ts n 0) (by omega) 50 (by omega) n 0 0 (by omega) (by omega) rfl
end Go.Proofs.YtodaajokphoioaaDoor.Pure

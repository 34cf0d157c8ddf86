/- Bytes of joined and cut strings; codes are prefix-free; what Int and String answer at a code. Plain lists and numbers. -/
import Derived.Test.YtodaajokphoioaaDoorSane
namespace Go.Proofs.YtodaajokphoioaaDoor.L
open Go.RowKit Go.Proofs.YtodaajokphoioaaDoor Go.Proofs.YtodaajokphoioaaDoorW.PrintWords

theorem bys_num (l : List Nat) (h : ∀ b ∈ l, b < 256) : bys (strOfNums (l.map fun b : Nat => (b : Int))) 0 = l := by
  unfold bys
  rw [strOfNums_data, List.drop_zero, List.map_map, List.map_map]
  conv => rhs; rw [← List.map_id l]
  apply List.map_congr_left
  intro b hb
  have := h b hb
  simp
  omega
theorem bys_code (n : Int) : bys (strOfNums (leb (zz n))) 0 = lebN (zz n) := by
  rw [leb_eq]
  exact bys_num _ (lebN_lt _)
theorem bys_append (s t : ByteArray) (p : Nat) (h : p ≤ s.size) : bys (s ++ t) p = bys s p ++ bys t 0 := by
  unfold bys
  rw [ByteArray.data_append, Array.toList_append, List.drop_append_of_le_length (by rw [data_length]; exact h), List.map_append, List.drop_zero]
theorem bys_append_right (s t : ByteArray) (p : Nat) : bys (s ++ t) (s.size + p) = bys t p := by
  unfold bys
  rw [ByteArray.data_append, Array.toList_append, List.drop_append, List.drop_of_length_le (by rw [data_length]; omega), List.nil_append, data_length]
  congr 2
  omega
theorem bys_extract (s : ByteArray) (a c p : Nat) : bys (s.extract a c) p = ((bys s a).take (c - a)).drop p := by
  unfold bys
  rw [ByteArray.data_extract, Array.toList_extract, List.map_drop, List.map_take]
theorem bys_zero (s : ByteArray) : bys s 0 = s.data.toList.map UInt8.toNat := by
  unfold bys
  rw [List.drop_zero]

theorem bytes_inj {s t : ByteArray} (h : bys s 0 = bys t 0) : s = t := by
  rw [bys_zero, bys_zero] at h
  have hl : s.data.toList = t.data.toList := by
    apply List.map_inj_right (f := UInt8.toNat) (fun x y hxy => UInt8.toNat_inj.1 hxy) |>.1 h
  have hd : s.data = t.data := by rw [← Array.toList_inj]; exact hl
  cases s
  cases t
  simp only at hd
  rw [hd]

/-- Codes are prefix-free. -/
theorem code_prefix {z z' : Nat} {r r' : List Nat} (hz : z < 9223372036854775808) (hz' : z' < 9223372036854775808) (h : lebN z ++ r = lebN z' ++ r') : z = z' := by
  obtain ⟨p, b, _, h2, _, h4⟩ := scan_leb z 9 r (lebN_le9 hz)
  obtain ⟨p', b', _, h2', _, h4'⟩ := scan_leb z' 9 r' (lebN_le9 hz')
  rw [h, h2'] at h2
  simp only [Option.some.injEq, Prod.mk.injEq] at h2
  rw [← h4, ← h4', h2.1, h2.2]

theorem zz_inj {n m : Int} (h : zz n = zz m) : n = m := by rw [← unz_zz n, ← unz_zz m, h]

theorem lebN_pos (z : Nat) : 0 < (lebN z).length := List.length_pos_iff.2 (lebN_ne z)

theorem code_size (n : Int) : (strOfNums (leb (zz n))).size = (lebN (zz n)).length := by rw [strOfNums_size, lebN_length]

theorem put_ok {n : Int} (h : InR n) : wire_PutInt.f n = some (strOfNums (leb (zz n)), 0) := by
  unfold wire_PutInt.f
  rw [if_pos (And.intro h.1 h.2)]

/-- A proper part of a code, from its beginning, is no code. -/
theorem int_trunc {n : Int} (hn : InR n) {p : Nat} (hp : p < (lebN (zz n)).length) : intSpec ((strOfNums (leb (zz n))).extract 0 p) 0 = (0, 0, 10) := by
  rcases int_inv ((strOfNums (leb (zz n))).extract 0 p) 0 with ⟨m, hm, _, _, _, ⟨r, hr⟩, hle⟩ | h | ⟨_, h⟩
  · exfalso
    have hb : bys ((strOfNums (leb (zz n))).extract 0 p) (0 : Int).toNat = (lebN (zz n)).take p := by
      rw [show (0 : Int).toNat = 0 by rfl, bys_extract, bys_code]
      simp
    rw [hb] at hr
    have e : lebN (zz n) ++ [] = lebN (zz m) ++ (r ++ (lebN (zz n)).drop p) := by
      rw [← List.append_assoc, ← hr, List.take_append_drop, List.append_nil]
    have hz := code_prefix (by have := zz_inR hn; omega) (by have := zz_inR hm; omega) e
    have hl := congrArg List.length hr
    rw [List.length_take, List.length_append, ← hz] at hl
    omega
  · exact h
  · exfalso
    omega

theorem natR {n : Nat} (h : n ≤ 4611686018427387903) : InR (n : Int) := ⟨by omega, by omega⟩

theorem bys_encS (s : ByteArray) : bys (encS s) 0 = lebN (zz (s.size : Int)) ++ bys s 0 := by
  unfold encS
  rw [bys_append _ _ _ (Nat.zero_le _), bys_code]

/-- A proper part of a string's code, from its beginning, is no string's code. -/
theorem str_trunc (s : ByteArray) (hs : s.size ≤ 65536) {q : Nat} (hq : q < (encS s).size) : (strSpec ((encS s).extract 0 q) 0).2.2 = 10 := by
  have hsz := encS_size s
  rw [← lebN_length] at hsz
  have hb : bys ((encS s).extract 0 q) 0 = (lebN (zz (s.size : Int)) ++ bys s 0).take q := by
    rw [bys_extract, bys_encS]
    simp
  unfold strSpec
  rcases int_inv ((encS s).extract 0 q) 0 with ⟨m, hm, _, _, he, ⟨r, hr⟩, hle⟩ | h | ⟨_, h⟩
  · rw [show (0 : Int).toNat = 0 by rfl] at hr he hle
    rw [hb] at hr
    have e : lebN (zz (s.size : Int)) ++ bys s 0 = lebN (zz m) ++ (r ++ (lebN (zz (s.size : Int)) ++ bys s 0).drop q) := by
      rw [← List.append_assoc, ← hr, List.take_append_drop]
    have hn := natR (n := s.size) (by omega)
    have hz := zz_inj (code_prefix (by have := zz_inR hn; omega) (by have := zz_inR hm; omega) e)
    subst hz
    rw [he]
    dsimp only
    have hx : ((encS s).extract 0 q).size = q := by
      rw [ByteArray.size_extract]
      omega
    rw [if_pos rfl, hx, if_pos]
    right; right
    omega
  · rw [h]
    rfl
  · exfalso
    omega

/-- What String answers at a string's code. -/
theorem str_ok {s t : ByteArray} {p : Nat} (ht : t.size ≤ 65536) {r : List Nat} (hp : p ≤ s.size) (h : bys s p = bys (encS t) 0 ++ r) : strSpec s (p : Int) = (t, ((p + (encS t).size : Nat) : Int), 0) := by
  have hn := natR (n := t.size) (by omega)
  rw [bys_encS, List.append_assoc] at h
  have hi := int_ok hp hn h
  have hsz := encS_size t
  rw [← lebN_length] at hsz
  have hlen := congrArg List.length h
  rw [bys_length, List.length_append, List.length_append, bys_length] at hlen
  unfold strSpec
  rw [hi]
  dsimp only
  rw [if_pos rfl, if_neg (by omega)]
  have hx : s.extract (((p + (lebN (zz (t.size : Int))).length : Nat) : Int)).toNat (((p + (lebN (zz (t.size : Int))).length : Nat) : Int) + (t.size : Int)).toNat = t := by
    apply bytes_inj
    rw [bys_extract]
    have e1 : (((p + (lebN (zz (t.size : Int))).length : Nat) : Int) + (t.size : Int)).toNat - (((p + (lebN (zz (t.size : Int))).length : Nat) : Int)).toNat = t.size := by omega
    rw [e1, Int.toNat_natCast, ← bys_drop, h, List.drop_append_of_le_length (Nat.le_refl _), List.drop_length, List.nil_append, List.take_append_of_le_length (by rw [bys_length]; omega), List.take_of_length_le (by rw [bys_length]; omega), List.drop_zero]
  rw [hx]
  congr 2
  omega

/-- What String accepts is a string's code. -/
theorem str_inv (s : ByteArray) (a : Int) : (∃ t : ByteArray, t.size ≤ 65536 ∧ 0 ≤ a ∧ a ≤ s.size ∧ strSpec s a = (t, ((a.toNat + (encS t).size : Nat) : Int), 0) ∧ a.toNat + (encS t).size ≤ s.size ∧ s.extract a.toNat (a.toNat + (encS t).size) = encS t) ∨
    strSpec s a = (⟨#[]⟩, 0, 10) ∨ (strSpec s a = (⟨#[]⟩, 0, 2) ∧ (a < 0 ∨ (s.size : Int) < a)) := by
  unfold strSpec
  rcases int_inv s a with ⟨n, hn, h0, h1, he, ⟨r, hr⟩, hle⟩ | h | ⟨h, hb⟩
  · rw [he]
    dsimp only
    rw [if_pos rfl]
    split
    · exact Or.inr (Or.inl rfl)
    · rename_i hne
      left
      obtain ⟨m, rfl⟩ := Int.eq_ofNat_of_zero_le (show 0 ≤ n by omega)
      obtain ⟨p, rfl⟩ := Int.eq_ofNat_of_zero_le h0
      rw [Int.toNat_natCast] at hr hle hne ⊢
      rw [Int.toNat_natCast]
      generalize hL : (lebN (zz (m : Int))).length = L at *
      have e2 : (((p + L : Nat) : Int) + (m : Int)).toNat = p + L + m := by omega
      rw [e2]
      have hts : (s.extract (p + L) (p + L + m)).size = m := by
        rw [ByteArray.size_extract]
        omega
      have hes : (encS (s.extract (p + L) (p + L + m))).size = L + m := by
        rw [encS_size, hts, ← lebN_length, hL]
      refine ⟨s.extract (p + L) (p + L + m), by omega, by omega, by omega, ?_, by omega, ?_⟩
      · congr 2
        omega
      · apply bytes_inj
        rw [hes, bys_encS, hts, bys_extract, bys_extract, List.drop_zero, List.drop_zero, show p + (L + m) - p = L + m by omega, show p + L + m - (p + L) = m by omega, List.take_add, hr, List.take_append_of_le_length (by omega), List.take_of_length_le (by omega)]
        congr 2
        rw [← hr, bys_drop]
  · rw [h]
    exact Or.inr (Or.inl rfl)
  · rw [h]
    exact Or.inr (Or.inr ⟨rfl, hb⟩)

end Go.Proofs.YtodaajokphoioaaDoor.L

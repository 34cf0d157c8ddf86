/- WireTruncated over plain numbers and lists: codes are prefix-free. -/
import Derived.Test.YtodaajokphoioaaDoorLx5
import Derived.Test.YtodaajokphoioaaDoorFacts
namespace Go.Proofs.YtodaajokphoioaaDoor.Pure
open Go.RowKit Go.Proofs.YtodaajokphoioaaDoor Go.Proofs.YtodaajokphoioaaDoor.L Go.Proofs.YtodaajokphoioaaDoorW.PrintWords

theorem tr_mn (n : Nat) (c : Nat) : ∃ m : Nat, mn (n : Int) (c : Int) = (m : Int) ∧ m ≤ n ∧ m ≤ c := by
  unfold mn
  split
  · exact ⟨c, rfl, by omega, Nat.le_refl _⟩
  · exact ⟨n, rfl, Nat.le_refl _, by omega⟩

/-- One code begins with another just if both are of one number. -/
theorem tr_pre {n m : Int} (hn : InR n) (hm : InR m) (h : (strOfNums (leb (zz n))).size ≤ (strOfNums (leb (zz m))).size) :
    (((strOfNums (leb (zz m))).extract 0 (strOfNums (leb (zz n))).size).toList == (strOfNums (leb (zz n))).toList) = (n == m) := by
  have hc := part_eq (strOfNums (leb (zz m))) 0 (strOfNums (leb (zz n))).size (lebN (zz n)) (lebN_lt _)
  rw [← leb_eq, bys_code, Nat.sub_zero] at hc
  by_cases e : n = m
  · subst e
    rw [beq_self_eq_true, beq_iff_eq]
    exact (hc.2 (by rw [List.take_of_length_le (by rw [code_size]; omega)])).symm
  · rw [beq_eq_false_iff_ne.2 e, beq_eq_false_iff_ne]
    intro h2
    have h3 := hc.1 h2.symm
    have h4 : lebN (zz n) ++ (lebN (zz m)).drop (strOfNums (leb (zz n))).size = lebN (zz m) ++ [] := by
      rw [List.append_nil]
      conv => lhs; rw [h3]
      exact List.take_append_drop _ _
    exact e (zz_inj (code_prefix (by have := zz_inR hn; omega) (by have := zz_inR hm; omega) h4))

theorem tr_j0 (k : Nat) (hk : 50 ≤ k) (a0 a1 a3 : Int) (h3 : -9223372036854775808 ≤ a3 ∧ a3 ≤ 9223372036854775807) (n m : Int) (hn : InR n) (hm : InR m) (e0 : workpiecelaw01_NumberFrom.f a0 = some n) (e1 : workpiecelaw01_NumberFrom.f a1 = some m) (t : ByteArray) (ht : t.size ≤ 200) :
    workpiecelaw01_WireTruncated.j0 (k + 1) a0 a1 a3 true (strOfNums (leb (zz n))) (strOfNums (leb (zz m))) (encS t) false = some true := by
  have z1 : 0 < (strOfNums (leb (zz n))).size := by rw [code_size]; exact lebN_pos _
  have z1b : (strOfNums (leb (zz n))).size ≤ 9 := by rw [code_size]; exact lebN_le9 (by have := zz_inR hn; omega)
  have z2 : 0 < (encS t).size := by rw [encS_size, ← lebN_length]; have := lebN_pos (zz (t.size : Int)); omega
  have z2b : (encS t).size ≤ 209 := by
    rw [encS_size, ← lebN_length]
    have := lebN_le9 (z := zz (t.size : Int)) (by have := zz_lt (t.size : Int) (by omega) (by omega); omega)
    omega
  obtain ⟨p, hp, hp0, hp1⟩ := pick_spec a3 ((strOfNums (leb (zz n))).size : Int) h3 (by omega)
  obtain ⟨q, hq, hq0, hq1⟩ := pick_spec a3 ((encS t).size : Int) h3 (by omega)
  simp only [workpiecelaw01_WireTruncated.j0, Bool.false_eq_true, if_false]
  rw [hp, hq, e0, e1]
  simp only [Option.bind_some]
  obtain ⟨p, rfl⟩ := Int.eq_ofNat_of_zero_le hp0
  obtain ⟨q, rfl⟩ := Int.eq_ofNat_of_zero_le hq0
  simp only [Int.toNat_natCast]
  have s1 : ((strOfNums (leb (zz n))).extract 0 p).size ≤ 4611686018427387904 := by rw [ByteArray.size_extract]; omega
  have s2 : ((encS t).extract 0 q).size ≤ 4611686018427387904 := by rw [ByteArray.size_extract]; omega
  rw [if_pos hp0, if_pos (show (p : Int) ≤ ((strOfNums (leb (zz n))).size : Int) by omega), wire_Int_spec _ s1 _ k (by omega), int_trunc hn (by rw [← code_size]; omega)]
  simp only [Option.bind_some]
  rw [if_pos hq0, if_pos (show (q : Int) ≤ ((encS t).size : Int) by omega), wire_String_spec _ s2 _ k (by omega)]
  simp only [Option.bind_some, if_true]
  have hs := str_trunc t (by omega) (q := q) (by omega)
  by_cases hle : (strOfNums (leb (zz n))).size ≤ (strOfNums (leb (zz m))).size
  · rw [if_pos (show ((strOfNums (leb (zz n))).size : Int) ≤ ((strOfNums (leb (zz m))).size : Int) by omega), if_pos (show 0 ≤ ((strOfNums (leb (zz n))).size : Int) by omega), if_pos hs, tr_pre hn hm hle]
    simp
  · rw [if_neg (show ¬ ((strOfNums (leb (zz n))).size : Int) ≤ ((strOfNums (leb (zz m))).size : Int) by omega), if_pos hs]
    have hne : n ≠ m := fun h => by subst h; exact hle (Nat.le_refl _)
    rw [beq_eq_false_iff_ne.2 hne]
    rfl

theorem WireTruncated : workpiecelaw01_WireTruncated.Pure := by
  intro a0 a1 a2 a3 w0 w1 w2 w3
  refine ⟨50 + 1, ?_⟩
  unfold workpiecelaw01_WireTruncated.f
  obtain ⟨n, e0, hn⟩ := number_spec a0 (wf_bd w0)
  obtain ⟨m, e1, hm⟩ := number_spec a1 (wf_bd w1)
  obtain ⟨c, hc, hc1, hc2⟩ := tr_mn a2.size 200
  have hc' : mn (a2.size : Int) 200 = (c : Int) := hc
  rw [sane_spec _ (by omega), e0, e1, hc']
  simp only [Option.bind_some]
  rw [put_ok hn, put_ok hm]
  simp only [Option.bind_some]
  rw [if_pos (show 0 ≤ (c : Int) by omega), if_pos (show (c : Int) ≤ (a2.size : Int) by omega)]
  have hsz : (a2.extract 0 (c : Int).toNat).size ≤ 200 := by
    rw [ByteArray.size_extract]
    simp
    omega
  generalize a2.extract 0 (c : Int).toNat = t at hsz
  rw [wire_PutString_spec t (by omega)]
  simp only [Option.bind_some, if_true]
  have z1 : 0 < (strOfNums (leb (zz n))).size := by rw [code_size]; exact lebN_pos _
  have z2 : 0 < (encS t).size := by rw [encS_size, ← lebN_length]; have := lebN_pos (zz (t.size : Int)); omega
  have hb : (((encS t).size : Int) == 0) = false := beq_eq_false_iff_ne.2 (by omega)
  rw [if_neg (show ¬ ((strOfNums (leb (zz n))).size : Int) = 0 by omega), hb]
  exact tr_j0 50 (by omega) a0 a1 a3 (wf_bd w3) n m hn hm e0 e1 t hsz
end Go.Proofs.YtodaajokphoioaaDoor.Pure

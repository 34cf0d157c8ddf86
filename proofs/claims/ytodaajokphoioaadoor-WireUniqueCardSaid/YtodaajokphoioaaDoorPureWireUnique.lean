/- WireUnique over plain numbers and lists: what is accepted is a code. -/
import Derived.Test.YtodaajokphoioaaDoorLx4
import Derived.Test.YtodaajokphoioaaDoorFacts
namespace Go.Proofs.YtodaajokphoioaaDoor.Pure
open Go.RowKit Go.Proofs.YtodaajokphoioaaDoor Go.Proofs.YtodaajokphoioaaDoor.L Go.Proofs.YtodaajokphoioaaDoorW.PrintWords

theorem un_j1 (k : Nat) (hk : 50 ≤ k) (x7 : Bool) (s : ByteArray) (hs : s.size ≤ 4611686018427387904) (a : Int) (h0 : 0 ≤ a) (h1 : a ≤ s.size) (xs : List Int) (n i : Int) :
    workpiecelaw01_WireUnique.j1 (k + 1) x7 s a xs n i false = workpiecelaw01_WireUnique.l0 k x7 s xs n (wrap64 (i + 1)) := by
  simp only [workpiecelaw01_WireUnique.j1, Bool.false_eq_true, if_false]
  rw [wire_String_spec s hs a k (by omega)]
  simp only [Option.bind_some]
  rcases str_inv s a with ⟨t, ht, _, _, he, hle, hx⟩ | h | ⟨_, h⟩
  · rw [he]
    dsimp only
    rw [wire_PutString_spec t ht]
    simp only [Option.bind_some, if_true]
    obtain ⟨p, rfl⟩ := Int.eq_ofNat_of_zero_le h0
    rw [Int.toNat_natCast] at hle hx ⊢
    rw [if_neg (show ¬ ((p + (encS t).size : Nat) : Int) < (p : Int) by omega), if_neg (show ¬ ((p + (encS t).size : Nat) : Int) > (s.size : Int) by omega), if_pos h0, if_pos (show (p : Int) ≤ ((p + (encS t).size : Nat) : Int) by omega), if_pos (show ((p + (encS t).size : Nat) : Int) ≤ (s.size : Int) by omega), Int.toNat_natCast, hx, if_pos rfl]
  · rw [h]
    dsimp only
    rw [wire_PutString_spec _ (by decide)]
    simp only [Option.bind_some]
    rw [if_neg (show ¬ (10 : Int) = 0 by decide), if_pos trivial, if_pos (show (⟨#[]⟩ : ByteArray).toList = ([] : List UInt8) by rw [ByteArray.toList_eq]), if_pos trivial]
  · exfalso
    omega

theorem un_l0 (x7 : Bool) (s : ByteArray) (hs : s.size ≤ 4611686018427387904) (xs : List Int) (hx : xs.length ≤ 100) (hin : ∀ i : Nat, i < xs.length → 0 ≤ rd xs (i : Int) ∧ rd xs (i : Int) ≤ s.size) (k : Nat) (hk : 50 ≤ k) (d : Nat) : ∀ i : Nat, i + d = xs.length →
    workpiecelaw01_WireUnique.l0 (k + 1 + 2 * d) x7 s xs (xs.length : Int) (i : Int) = some x7 := by
  induction d with
  | zero =>
    intro i hi
    simp only [workpiecelaw01_WireUnique.l0]
    rw [if_neg (by omega)]
  | succ d ih =>
    intro i hi
    rw [show k + 1 + 2 * (d + 1) = ((k + 1 + 2 * d) + 1) + 1 by omega]
    simp only [workpiecelaw01_WireUnique.l0]
    have e1 : wrap64 ((i : Int) + 1) = ((i + 1 : Nat) : Int) := by unfold wrap64; omega
    obtain ⟨h0, h1⟩ := hin i (by omega)
    have hj : workpiecelaw01_WireUnique.j1 ((k + 1 + 2 * d) + 1) x7 s (rd xs (i : Int)) xs (xs.length : Int) (i : Int) false = some x7 := by
      rw [un_j1 (k + 1 + 2 * d) (by omega) x7 s hs _ h0 h1 xs _ _, e1]
      exact ih (i + 1) (by omega)
    rw [if_pos (show (i : Int) < (xs.length : Int) by omega), if_pos (show 0 ≤ (i : Int) by omega), if_pos (show (i : Int) < (xs.length : Int) by omega), wire_Int_spec s hs _ _ (by omega)]
    simp only [Option.bind_some]
    generalize rd xs (i : Int) = a at h0 h1 hj ⊢
    rcases int_inv s a with ⟨n, hn, _, _, he, ⟨r, hr⟩, hle⟩ | h | ⟨_, h⟩
    · rw [he]
      dsimp only
      rw [put_ok hn]
      simp only [Option.bind_some, if_true]
      obtain ⟨p, rfl⟩ := Int.eq_ofNat_of_zero_le h0
      rw [Int.toNat_natCast] at hr hle ⊢
      rw [if_neg (show ¬ ((p + (lebN (zz n)).length : Nat) : Int) < (p : Int) by omega), if_neg (show ¬ ((p + (lebN (zz n)).length : Nat) : Int) > (s.size : Int) by omega), if_pos h0, if_pos (show (p : Int) ≤ ((p + (lebN (zz n)).length : Nat) : Int) by omega), if_pos (show ((p + (lebN (zz n)).length : Nat) : Int) ≤ (s.size : Int) by omega), Int.toNat_natCast]
      have hc := part_eq s p (p + (lebN (zz n)).length) (lebN (zz n)) (lebN_lt _)
      rw [← leb_eq] at hc
      rw [if_pos (hc.2 (by rw [hr, Nat.add_sub_cancel_left, List.take_append_of_le_length (Nat.le_refl _), List.take_length])).symm]
      exact hj
    · rw [h]
      dsimp only
      rw [put_ok (n := 0) ⟨by decide, by decide⟩]
      simp only [Option.bind_some]
      rw [if_neg (show ¬ (10 : Int) = 0 by decide), if_pos trivial, if_pos trivial]
      exact hj
    · exfalso
      omega

theorem un_mn (n : Nat) (c : Nat) : ∃ m : Nat, mn (n : Int) (c : Int) = (m : Int) ∧ m ≤ n ∧ m ≤ c := by
  unfold mn
  split
  · exact ⟨c, rfl, by omega, Nat.le_refl _⟩
  · exact ⟨n, rfl, Nat.le_refl _, by omega⟩

theorem WireUnique : workpiecelaw01_WireUnique.Pure := by
  intro a0 a1 a2 w0 w1 w2
  refine ⟨50 + 1 + 2 * 2, ?_⟩
  unfold workpiecelaw01_WireUnique.f
  obtain ⟨c, hc, hc1, hc2⟩ := un_mn a0.size 300
  have hc' : mn (a0.size : Int) 300 = (c : Int) := hc
  rw [sane_spec _ (by omega), hc']
  simp only [Option.bind_some]
  rw [if_pos (show 0 ≤ (c : Int) by omega), if_pos (show (c : Int) ≤ (a0.size : Int) by omega)]
  have hsz : (a0.extract 0 (c : Int).toNat).size ≤ 300 := by
    rw [ByteArray.size_extract]
    simp
    omega
  have hf : (strOfNums [a2]).size = 1 := by rw [strOfNums_size]; rfl
  generalize a0.extract 0 (c : Int).toNat = t at hsz ⊢
  rw [if_pos (by omega)]
  have hS : (strOfNums [a2] ++ t).size ≤ 301 := by rw [ByteArray.size_append]; omega
  generalize strOfNums [a2] ++ t = s at hS ⊢
  have ew : wrap64 ((s.size : Int) + 1) = (s.size : Int) + 1 := by unfold wrap64; omega
  obtain ⟨p, hp, hp0, hp1⟩ := pick_spec a1 ((s.size : Int) + 1) (wf_bd w1) (by omega)
  rw [ew, hp]
  simp only [Option.bind_some]
  refine un_l0 true s (by omega) [0, p] (by simp) ?_ 50 (by omega) 2 0 rfl
  intro i hi
  have : i = 0 ∨ i = 1 := by simp at hi; omega
  rcases this with rfl | rfl
  · exact ⟨Int.le_refl _, by show (0 : Int) ≤ _; omega⟩
  · exact ⟨hp0, by show p ≤ _; omega⟩
end Go.Proofs.YtodaajokphoioaaDoor.Pure

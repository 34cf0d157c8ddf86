/- WireMatchesReference over plain numbers and lists: the program's functions and the reference's come to the same. -/
import Derived.Test.YtodaajokphoioaaDoorLx3
namespace Go.Proofs.YtodaajokphoioaaDoor.Pure
open Go.RowKit Go.Proofs.YtodaajokphoioaaDoor Go.Proofs.YtodaajokphoioaaDoor.L Go.Proofs.YtodaajokphoioaaDoorW.PrintWords

theorem put_total (n : Int) : ∃ v, wire_PutInt.f n = some v := by
  unfold wire_PutInt.f
  split
  · exact ⟨_, rfl⟩
  · exact ⟨_, rfl⟩
theorem puts_total (s : ByteArray) : ∃ v, wire_PutString.f s = some v := by
  by_cases h : s.size ≤ 65536
  · exact ⟨_, wire_PutString_spec s h⟩
  · exact ⟨_, wire_PutString_big s (by omega)⟩

def mrOut (k : Nat) (x2 : Int) (x7 : Bool) (x8 : ByteArray) : Option Bool :=
  (workpiecelaw01_pick.f x2 (wrap64 ((x8.size : Int) + 2))).bind fun t167 => ((some (([x2, t167] : List Int) : List Int)).bind fun y168 => (workpiecelaw01_WireMatchesReference.l1 k x7 x8 y168 (y168.length : Int) 0))

theorem mr_l0 (x2 : Int) (x7 : Bool) (x8 : ByteArray) (xs : List Int) (hx : xs.length ≤ 100) (k : Nat) (hk : 50 ≤ k) (d : Nat) : ∀ i : Nat, i + d = xs.length →
    workpiecelaw01_WireMatchesReference.l0 (k + 1 + d) x2 x7 x8 xs (xs.length : Int) (i : Int) = mrOut k x2 x7 x8 := by
  induction d with
  | zero =>
    intro i hi
    simp only [workpiecelaw01_WireMatchesReference.l0]
    rw [if_neg (by omega)]
    rfl
  | succ d ih =>
    intro i hi
    rw [show k + 1 + (d + 1) = (k + 1 + d) + 1 by omega]
    simp only [workpiecelaw01_WireMatchesReference.l0]
    have e1 : wrap64 ((i : Int) + 1) = ((i + 1 : Nat) : Int) := by unfold wrap64; omega
    obtain ⟨v, hv⟩ := put_total (rd xs (i : Int))
    rw [if_pos (show (i : Int) < (xs.length : Int) by omega), if_pos (show 0 ≤ (i : Int) by omega), if_pos (show (i : Int) < (xs.length : Int) by omega), ref_PutInt_spec _ _ (by omega), hv]
    simp only [Option.bind_some, if_true]
    rw [e1]
    exact ih (i + 1) (by omega)

def mrEnd (k : Nat) (x7 : Bool) (x8 : ByteArray) : Option Bool :=
  (wire_PutString.f x8).bind fun bt184 => ((workpieceref01_PutString.f k x8).bind fun bt186 => (if x7 = true then (if bt184.1.toList = bt186.1.toList then (if bt184.2 = bt186.2 then ((wire_Sum.f x8).bind fun t188 => ((workpieceref01_Sum.f x8).bind fun t189 => (some (t188 == t189)))) else (some false)) else (some false)) else (some false)))

theorem mr_l1 (x7 : Bool) (x8 : ByteArray) (h8 : x8.size ≤ 4611686018427387904) (xs : List Int) (hx : xs.length ≤ 100) (k : Nat) (hk : 50 ≤ k) (d : Nat) : ∀ i : Nat, i + d = xs.length →
    workpiecelaw01_WireMatchesReference.l1 (k + 1 + d) x7 x8 xs (xs.length : Int) (i : Int) = mrEnd k x7 x8 := by
  induction d with
  | zero =>
    intro i hi
    simp only [workpiecelaw01_WireMatchesReference.l1]
    rw [if_neg (by omega)]
    rfl
  | succ d ih =>
    intro i hi
    rw [show k + 1 + (d + 1) = (k + 1 + d) + 1 by omega]
    simp only [workpiecelaw01_WireMatchesReference.l1]
    have e1 : wrap64 ((i : Int) + 1) = ((i + 1 : Nat) : Int) := by unfold wrap64; omega
    rw [if_pos (show (i : Int) < (xs.length : Int) by omega), if_pos (show 0 ≤ (i : Int) by omega), if_pos (show (i : Int) < (xs.length : Int) by omega), wire_Int_spec _ h8 _ _ (by omega), ref_Int_spec _ h8 _ _ (by omega), wire_String_spec _ h8 _ _ (by omega), ref_String_spec _ h8 _ _ (by omega)]
    simp only [Option.bind_some, if_true]
    rw [e1]
    exact ih (i + 1) (by omega)

theorem mr_end (x8 : ByteArray) (h8 : x8.size ≤ 9223372036854775807) (k : Nat) (hk : 50 ≤ k) : mrEnd k true x8 = some true := by
  unfold mrEnd
  obtain ⟨v, hv⟩ := puts_total x8
  rw [ref_PutString_spec _ _ (by omega), hv]
  simp only [Option.bind_some, if_true]
  have hs : ∃ t, workpieceref01_Sum.f x8 = some t := by
    unfold workpieceref01_Sum.f
    rw [if_pos h8]
    exact ⟨_, rfl⟩
  obtain ⟨t, ht⟩ := hs
  rw [sum_eq, ht]
  simp

theorem mn_few (n : Nat) (c : Nat) : ∃ m : Nat, mn (n : Int) (c : Int) = (m : Int) ∧ m ≤ n ∧ m ≤ c := by
  unfold mn
  split
  · exact ⟨c, rfl, by omega, Nat.le_refl _⟩
  · exact ⟨n, rfl, Nat.le_refl _, by omega⟩

theorem WireMatchesReference : workpiecelaw01_WireMatchesReference.Pure := by
  intro a0 a1 a2 w0 w1 w2
  refine ⟨50 + 1 + 2 + 1 + 2, ?_⟩
  unfold workpiecelaw01_WireMatchesReference.f
  obtain ⟨n, hn, _⟩ := number_spec a0 (wf_bd w0)
  obtain ⟨m, hm, hm1, hm2⟩ := mn_few a1.size 300
  have hm' : mn (a1.size : Int) 300 = (m : Int) := hm
  rw [sane_spec _ (by omega), hn, hm']
  simp only [Option.bind_some]
  rw [if_pos (show 0 ≤ (m : Int) by omega), if_pos (show (m : Int) ≤ (a1.size : Int) by omega)]
  have hsz : (a1.extract 0 (m : Int).toNat).size ≤ 300 := by
    rw [ByteArray.size_extract]
    simp
    omega
  generalize a1.extract 0 (m : Int).toNat = few at hsz
  have e := mr_l0 a2 true few [a0, n] (by simp) (50 + 1 + 2) (by omega) 2 0 rfl
  refine Eq.trans e ?_
  unfold mrOut
  have ew : wrap64 ((few.size : Int) + 2) = (few.size : Int) + 2 := by unfold wrap64; omega
  obtain ⟨p, hp, _⟩ := pick_spec a2 ((few.size : Int) + 2) (wf_bd w2) (by omega)
  rw [ew, hp]
  simp only [Option.bind_some]
  have e2 := mr_l1 true few (by omega) [a2, p] (by simp) 50 (by omega) 2 0 rfl
  refine Eq.trans e2 ?_
  exact mr_end few (by omega) 50 (by omega)
end Go.Proofs.YtodaajokphoioaaDoor.Pure

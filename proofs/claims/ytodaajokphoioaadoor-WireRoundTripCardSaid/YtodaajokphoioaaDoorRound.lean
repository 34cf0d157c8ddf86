/- WireRoundTrip: the walk. -/
import Derived.Test.YtodaajokphoioaaDoorFacts

import Derived.Lib.Hide
namespace Go.Proofs.YtodaajokphoioaaDoor
open Go.RowKit Go.Proofs.YtodaajokphoioaaDoor Go.Proofs.YtodaajokphoioaaDoor.L Go.Proofs.YtodaajokphoioaaDoorW.PrintWords Go.Proofs.YtodaajokphoioaaDoorW.PrintLast Go.Proofs.YtodaajokphoioaaDoorW.PrintMore
attribute [local go_sem] min2_int min_two

theorem min200 (n : Nat) : ∃ m : Nat, (if 200 < (n : Int) then (200 : Int) else (n : Int)) = (m : Int) ∧ m ≤ n ∧ m ≤ 200 := by
  split
  · exact ⟨200, rfl, by omega, Nat.le_refl _⟩
  · exact ⟨n, rfl, Nat.le_refl _, by omega⟩

theorem round_at (P Q S : ByteArray) : bys (P ++ S ++ Q) P.size = bys S 0 ++ bys Q 0 := by
  have e := bys_append_right P (S ++ Q) 0
  rw [Nat.add_zero, ← ByteArray.append_assoc] at e
  rw [e, bys_append _ _ _ (Nat.zero_le _)]
theorem round_int (P Q : ByteArray) {n : Int} (hn : InR n) (hP : P.size ≤ 200) (hQ : Q.size ≤ 200) :
    wire_Int.f 50 (P ++ strOfNums (leb (zz n)) ++ Q) (P.size : Int) = some (n, (P.size : Int) + ((strOfNums (leb (zz n))).size : Int), 0) := by
  have hE : (strOfNums (leb (zz n))).size ≤ 9 := by rw [code_size]; exact lebN_le9 (by have := zz_inR hn; omega)
  have hb := round_at P Q (strOfNums (leb (zz n)))
  rw [bys_code] at hb
  rw [wire_Int_spec _ (by rw [ByteArray.size_append, ByteArray.size_append]; omega) _ _ (by omega), int_ok (by rw [ByteArray.size_append, ByteArray.size_append]; omega) hn hb, code_size]
  congr 2
theorem round_str (P Q T : ByteArray) (hP : P.size ≤ 200) (hQ : Q.size ≤ 200) (hT : T.size ≤ 200) :
    wire_String.f 50 (P ++ encS T ++ Q) (P.size : Int) = some (T, (P.size : Int) + ((encS T).size : Int), 0) := by
  have hF : (encS T).size ≤ 209 := by
    rw [encS_size, ← lebN_length]
    have := lebN_le9 (z := zz (T.size : Int)) (by have := zz_lt (T.size : Int) (by omega) (by omega); omega)
    omega
  rw [wire_String_spec _ (by rw [ByteArray.size_append, ByteArray.size_append]; omega) _ _ (by omega), str_ok (t := T) (by omega) (by rw [ByteArray.size_append, ByteArray.size_append]; omega) (round_at P Q (encS T))]
  congr 2

set_option maxRecDepth 100000 in
set_option maxHeartbeats 2000000 in
theorem round_walk (x : Int) (t a b : ByteArray) (w : World) (hx : -9223372036854775808 ≤ x ∧ x ≤ 9223372036854775807) (hN : Aside0 (Nib w)) :
    Calls Tryd.prog 4 #[.int .i64 x, .string t, .agg #[.string a, .string b]] w fun e w' => e = .returned (.bool true) ∧ Below w.heap.size w w' := by
  obtain ⟨n, hn, hr⟩ := number_spec x hx
  have HN := Lib.hid hn
  have HR := Lib.hid hr
  clear hn hr hx
  obtain ⟨m1, q1, b1, c1⟩ := min200 a.size
  obtain ⟨m2, q2, b2, c2⟩ := min200 b.size
  obtain ⟨m3, q3, b3, c3⟩ := min200 t.size
  go_enter Tryd.func4, Tryd.ntmps4
  go_wp2_with fail
  refine (workpiecelaw01_sane.calls 50 true _ (sane_spec _ (by omega)) rfl ⟨nib_below hN.out (below_alloc (Below.refl _ _) _)⟩).mono ?_
  rintro e w1 ⟨rfl, hb⟩
  have z1 : (w.alloc (.cells #[.string a, .string b] 36)).heap.size = w.heap.size + 1 := World.size_alloc _ _
  have hb1 := Aside0.mk (below_step (below_alloc (Below.refl w.heap.size w) _) hb)
  have k0 : w1.cell? ⟨w.heap.size, 0, none⟩ = some (.string a) := (hb.cell (p := ⟨w.heap.size, 0, none⟩) (by rw [z1]; exact Nat.lt_succ_self _)).trans (by simp)
  have k1 : w1.cell? ⟨w.heap.size, 1, none⟩ = some (.string b) := (hb.cell (p := ⟨w.heap.size, 1, none⟩) (by rw [z1]; exact Nat.lt_succ_self _)).trans (by simp)
  have HZ := Aside0.mk (show w.heap.size < w1.heap.size by have := hb.size; rw [z1] at this; omega)
  clear hb z1
  go_wp2_with fail
  refine (workpiecelaw01_NumberFrom.calls x n _ HN.out).mono ?_
  rintro e w2 ⟨rfl, hb⟩
  have k2 : w2.cell? ⟨w.heap.size, 0, none⟩ = some (.string a) := (hb.cell (p := ⟨w.heap.size, 0, none⟩) HZ.out).trans k0
  have k3 : w2.cell? ⟨w.heap.size, 1, none⟩ = some (.string b) := (hb.cell (p := ⟨w.heap.size, 1, none⟩) HZ.out).trans k1
  have hb2 := Aside0.mk (below_step hb1.out hb)
  clear hb k0 k1 hb1 HZ
  go_upto_region 6 with (fail)
  have hP : (a.extract 0 m1).size ≤ 200 := by rw [ByteArray.size_extract]; omega
  have hQ : (b.extract 0 m2).size ≤ 200 := by rw [ByteArray.size_extract]; omega
  have hT : (t.extract 0 m3).size ≤ 200 := by rw [ByteArray.size_extract]; omega
  generalize a.extract 0 m1 = P at hP ⊢
  generalize b.extract 0 m2 = Q at hQ ⊢
  generalize t.extract 0 m3 = T at hT ⊢
  clear q1 q2 q3 b1 b2 b3 c1 c2 c3 k2 k3
  have HP := Aside0.mk (put_ok HR.out)
  have HI := Aside0.mk (round_int P Q HR.out (by omega) (by omega))
  have hE : (strOfNums (leb (zz n))).size ≤ 9 := by rw [code_size]; exact lebN_le9 (by have := zz_inR HR.out; omega)
  generalize strOfNums (leb (zz n)) = E at HP HI hE
  have HS := Aside0.mk (wire_PutString_spec T (by omega))
  have HU := Aside0.mk (round_str P Q T (by omega) (by omega) (by omega))
  have hF : (encS T).size ≤ 209 := by
    rw [encS_size, ← lebN_length]
    have := lebN_le9 (z := zz (T.size : Int)) (by have := zz_lt (T.size : Int) (by omega) (by omega); omega)
    omega
  generalize encS T = U at HS HU hF
  go_wp2_with fail
  refine (wire_PutInt.calls n E 0 _ HP.out).mono ?_
  rintro e w3 ⟨rfl, hb⟩
  have hb3 := Aside0.mk (below_step hb2.out hb)
  clear hb hb2
  go_wp2_with fail
  refine (wire_PutString.calls T U 0 _ HS.out).mono ?_
  rintro e w4 ⟨rfl, hb⟩
  have hb4 := Aside0.mk (below_step hb3.out hb)
  clear hb hb3
  go_wp2_with fail
  refine (wire_Int.calls 50 _ _ n ((P.size : Int) + (E.size : Int)) 0 _ HI.out).mono ?_
  rintro e w5 ⟨rfl, ⟨nd, rfl⟩⟩
  go_wp2_with fail
  refine (wire_String.calls 50 _ _ T ((P.size : Int) + (U.size : Int)) 0 _ HU.out).mono ?_
  rintro e w6 ⟨rfl, ⟨nd2, rfl⟩⟩
  go_wp2
  go_ret
  exact ⟨rfl, by repeat (first | exact hb4.out | apply pw_below_drewN | apply below_drew)⟩
end Go.Proofs.YtodaajokphoioaaDoor

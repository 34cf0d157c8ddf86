-- by a program of this seat (wip/tools/doctor.py, lawtext.py)
import Derived.Test.YtodaajokphoioaaDoorLx0
import Derived.Test.YtodaajokphoioaaDoorLx1
import Derived.Test.YtodaajokphoioaaDoorSane
namespace Go.Proofs.YtodaajokphoioaaDoor.L
open Go.RowKit Go.Proofs.YtodaajokphoioaaDoorW.PrintWords Go.Proofs.YtodaajokphoioaaDoorW.PrintLast Go.Proofs.YtodaajokphoioaaDoorW.PrintMore
attribute [local go_sem] max2_int min2_int max_two min_two max_three min_three max_four min_four   -- for this text's walks alone
set_option linter.unusedVariables false
set_option linter.unusedSimpArgs false

/-! ### workpiecelaw01_WireUnique: function 5 -/
mutual
def workpiecelaw01_WireUnique.l0 : Nat → Bool → ByteArray → List Int → Int → Int → Option (Bool)
  | 0, _, _, _, _, _ => none
  | k + 1, x7, x8, x36, x37, x38 => if x38 < x37 then (if 0 ≤ x38 then (if x38 < (x36.length : Int) then ((wire_Int.f k x8 (rd x36 x38)).bind fun bt199 => ((wire_PutInt.f bt199.1).bind fun bt202 => (if bt199.2.2 = 0 then (if bt202.2 = 0 then (if bt199.2.1 < (rd x36 x38) then (workpiecelaw01_WireUnique.j1 k x7 x8 (rd x36 x38) x36 x37 x38 true) else (if bt199.2.1 > (x8.size : Int) then (workpiecelaw01_WireUnique.j1 k x7 x8 (rd x36 x38) x36 x37 x38 true) else (if 0 ≤ (rd x36 x38) then (if (rd x36 x38) ≤ bt199.2.1 then (if bt199.2.1 ≤ (x8.size : Int) then (if (x8.extract ((rd x36 x38) : Int).toNat (bt199.2.1 : Int).toNat).toList = bt202.1.toList then (workpiecelaw01_WireUnique.j1 k x7 x8 (rd x36 x38) x36 x37 x38 false) else (workpiecelaw01_WireUnique.j1 k x7 x8 (rd x36 x38) x36 x37 x38 true)) else (none)) else (none)) else (none)))) else (workpiecelaw01_WireUnique.j1 k x7 x8 (rd x36 x38) x36 x37 x38 true)) else (if bt199.2.2 = 10 then (if bt199.1 = 0 then (workpiecelaw01_WireUnique.j1 k x7 x8 (rd x36 x38) x36 x37 x38 (bt199.2.1 != 0)) else (workpiecelaw01_WireUnique.j1 k x7 x8 (rd x36 x38) x36 x37 x38 true)) else (workpiecelaw01_WireUnique.j1 k x7 x8 (rd x36 x38) x36 x37 x38 true))))) else (none)) else (none)) else (some x7)
def workpiecelaw01_WireUnique.j1 : Nat → Bool → ByteArray → Int → List Int → Int → Int → Bool → Option (Bool)
  | 0, _, _, _, _, _, _, _ => none
  | k + 1, x7, x8, x10, x36, x37, x38, x94 => if x94 = true then (some false) else ((wire_String.f k x8 x10).bind fun bt204 => ((wire_PutString.f bt204.1).bind fun bt207 => (if bt204.2.2 = 0 then (if bt207.2 = 0 then (if bt204.2.1 < x10 then (some false) else (if bt204.2.1 > (x8.size : Int) then (some false) else (if 0 ≤ x10 then (if x10 ≤ bt204.2.1 then (if bt204.2.1 ≤ (x8.size : Int) then (if (x8.extract (x10 : Int).toNat (bt204.2.1 : Int).toNat).toList = bt207.1.toList then (workpiecelaw01_WireUnique.l0 k x7 x8 x36 x37 (wrap64 (x38 + 1))) else (some false)) else (none)) else (none)) else (none)))) else (some false)) else (if bt204.2.2 = 10 then (if bt204.1.toList = ([] : List UInt8) then (if bt204.2.1 = 0 then (workpiecelaw01_WireUnique.l0 k x7 x8 x36 x37 (wrap64 (x38 + 1))) else (some false)) else (some false)) else (some false)))))
end
def workpiecelaw01_WireUnique.f (k : Nat) (a0 : ByteArray) (a1 : Int) (a2 : Int) : Option (Bool) := (workpiecelaw01_sane.f k).bind fun t190 => ((some (([a2] : List Int) : List Int)).bind fun y191 => (if 0 ≤ (mn (a0.size : Int) 300) then (if (mn (a0.size : Int) 300) ≤ (a0.size : Int) then (if (strOfNums y191).size + (a0.extract 0 ((mn (a0.size : Int) 300) : Int).toNat).size ≤ 9223372036854775807 then ((workpiecelaw01_pick.f a1 (wrap64 ((((strOfNums y191) ++ (a0.extract 0 ((mn (a0.size : Int) 300) : Int).toNat)).size : Int) + 1))).bind fun t194 => ((some (([0, t194] : List Int) : List Int)).bind fun y195 => (workpiecelaw01_WireUnique.l0 k t190 ((strOfNums y191) ++ (a0.extract 0 ((mn (a0.size : Int) 300) : Int).toNat)) y195 (y195.length : Int) 0))) else (none)) else (none)) else (none)))
theorem workpiecelaw01_WireUnique.mono_l : ∀ k, (∀ y0 y1 y2 y3 y4, LeO (workpiecelaw01_WireUnique.l0 k y0 y1 y2 y3 y4) (workpiecelaw01_WireUnique.l0 (k + 1) y0 y1 y2 y3 y4)) ∧ (∀ y0 y1 y2 y3 y4 y5 y6, LeO (workpiecelaw01_WireUnique.j1 k y0 y1 y2 y3 y4 y5 y6) (workpiecelaw01_WireUnique.j1 (k + 1) y0 y1 y2 y3 y4 y5 y6))
  | 0 => ⟨fun _ _ _ _ _ r h => by simp [workpiecelaw01_WireUnique.l0] at h, fun _ _ _ _ _ _ _ r h => by simp [workpiecelaw01_WireUnique.j1] at h⟩
  | k + 1 => by
    obtain ⟨ih0, ih1⟩ := workpiecelaw01_WireUnique.mono_l k
    refine ⟨?_, ?_⟩
    · intro y0 y1 y2 y3 y4
      unfold workpiecelaw01_WireUnique.l0
      repeat' first
      | (with_reducible exact ih0 _ _ _ _ _)
      | (with_reducible exact ih1 _ _ _ _ _ _ _)
      | (with_reducible exact wire_Int.mono _ _ _)
      | (with_reducible exact wire_String.mono _ _ _)
      | (with_reducible exact workpiecelaw01_sane.mono _)
      | (with_reducible exact LeO.refl _)
      | (with_reducible exact LeO.none _)
      | (with_reducible refine LeO.ite ?_ ?_)
      | (with_reducible refine LeO.bind ?_ (fun _ => ?_))
      | exact ih0 _ _ _ _ _
      | exact ih1 _ _ _ _ _ _ _
      | exact wire_Int.mono _ _ _
      | exact wire_String.mono _ _ _
      | exact workpiecelaw01_sane.mono _
      | exact LeO.none _
      | refine LeO.ite ?_ ?_
      | refine LeO.bind ?_ (fun _ => ?_)
    · intro y0 y1 y2 y3 y4 y5 y6
      unfold workpiecelaw01_WireUnique.j1
      repeat' first
      | (with_reducible exact ih0 _ _ _ _ _)
      | (with_reducible exact ih1 _ _ _ _ _ _ _)
      | (with_reducible exact wire_Int.mono _ _ _)
      | (with_reducible exact wire_String.mono _ _ _)
      | (with_reducible exact workpiecelaw01_sane.mono _)
      | (with_reducible exact LeO.refl _)
      | (with_reducible exact LeO.none _)
      | (with_reducible refine LeO.ite ?_ ?_)
      | (with_reducible refine LeO.bind ?_ (fun _ => ?_))
      | exact ih0 _ _ _ _ _
      | exact ih1 _ _ _ _ _ _ _
      | exact wire_Int.mono _ _ _
      | exact wire_String.mono _ _ _
      | exact workpiecelaw01_sane.mono _
      | exact LeO.none _
      | refine LeO.ite ?_ ?_
      | refine LeO.bind ?_ (fun _ => ?_)
theorem workpiecelaw01_WireUnique.mono : ∀ a0 a1 a2 k, LeO (workpiecelaw01_WireUnique.f k a0 a1 a2) (workpiecelaw01_WireUnique.f (k + 1) a0 a1 a2) := by
  intro a0 a1 a2 k
  obtain ⟨ih0, ih1⟩ := workpiecelaw01_WireUnique.mono_l k
  unfold workpiecelaw01_WireUnique.f
  repeat' first
      | (with_reducible exact ih0 _ _ _ _ _)
      | (with_reducible exact ih1 _ _ _ _ _ _ _)
      | (with_reducible exact wire_Int.mono _ _ _)
      | (with_reducible exact wire_String.mono _ _ _)
      | (with_reducible exact workpiecelaw01_sane.mono _)
      | (with_reducible exact LeO.refl _)
      | (with_reducible exact LeO.none _)
      | (with_reducible refine LeO.ite ?_ ?_)
      | (with_reducible refine LeO.bind ?_ (fun _ => ?_))
      | exact ih0 _ _ _ _ _
      | exact ih1 _ _ _ _ _ _ _
      | exact wire_Int.mono _ _ _
      | exact wire_String.mono _ _ _
      | exact workpiecelaw01_sane.mono _
      | exact LeO.none _
      | refine LeO.ite ?_ ?_
      | refine LeO.bind ?_ (fun _ => ?_)
def workpiecelaw01_WireUnique.T2 : Bool × List (List Nat × List Nat) := (true, [([], []), ([0], [0]), ([1], [1]), ([], []), ([], []), ([4], [4]), ([5], [5]), ([3, 6], [3, 6]), ([2, 7], [2, 7]), ([8, 0, 1, 2, 3, 4, 5, 6, 7, 8], [8])])
def workpiecelaw01_WireUnique.B2 : List Nat := [0, 1, 3, 0, 0, 16, 48, 120, 255, 511]
theorem workpiecelaw01_WireUnique.tab2 : rtab .any (opsOf Tryd.f5 2) = workpiecelaw01_WireUnique.T2 := by kernel_rfl
theorem workpiecelaw01_WireUnique.bits2 : waitsOk workpiecelaw01_WireUnique.T2.2 workpiecelaw01_WireUnique.B2 = true := by kernel_rfl
set_option maxHeartbeats 8000000 in
set_option maxRecDepth 100000 in
theorem workpiecelaw01_WireUnique.calls (k : Nat) (a0 : ByteArray) (a1 : Int) (a2 : Int) (r : Bool) (w : World) (h : workpiecelaw01_WireUnique.f k a0 a1 a2 = some r) (hr : r = true) (hN : Aside0 (Nib w)) :
    Calls Tryd.prog 5 #[.string a0, .int .i64 a1, .int .u8 a2] w fun e w' => e = .returned (.bool r) ∧ Below w.heap.size w w' := by
  have HB := Aside0.mk (Below.refl w.heap.size w)
  have H : ((workpiecelaw01_sane.f k).bind fun t190 => ((some (([a2] : List Int) : List Int)).bind fun y191 => (if 0 ≤ (mn (a0.size : Int) 300) then (if (mn (a0.size : Int) 300) ≤ (a0.size : Int) then (if (strOfNums y191).size + (a0.extract 0 ((mn (a0.size : Int) 300) : Int).toNat).size ≤ 9223372036854775807 then ((workpiecelaw01_pick.f a1 (wrap64 ((((strOfNums y191) ++ (a0.extract 0 ((mn (a0.size : Int) 300) : Int).toNat)).size : Int) + 1))).bind fun t194 => ((some (([0, t194] : List Int) : List Int)).bind fun y195 => (workpiecelaw01_WireUnique.l0 k t190 ((strOfNums y191) ++ (a0.extract 0 ((mn (a0.size : Int) 300) : Int).toNat)) y195 (y195.length : Int) 0))) else (none)) else (none)) else (none)))) = some r := h
  clear h
  replace H := Option.bind_eq_some_iff.mp H
  obtain ⟨t190, A40, H⟩ := H
  replace H : ((some (([a2] : List Int) : List Int)).bind fun y191 => (if 0 ≤ (mn (a0.size : Int) 300) then (if (mn (a0.size : Int) 300) ≤ (a0.size : Int) then (if (strOfNums y191).size + (a0.extract 0 ((mn (a0.size : Int) 300) : Int).toNat).size ≤ 9223372036854775807 then ((workpiecelaw01_pick.f a1 (wrap64 ((((strOfNums y191) ++ (a0.extract 0 ((mn (a0.size : Int) 300) : Int).toNat)).size : Int) + 1))).bind fun t194 => ((some (([0, t194] : List Int) : List Int)).bind fun y195 => (workpiecelaw01_WireUnique.l0 k t190 ((strOfNums y191) ++ (a0.extract 0 ((mn (a0.size : Int) 300) : Int).toNat)) y195 (y195.length : Int) 0))) else (none)) else (none)) else (none))) = some r := H
  have A4 := Aside0.mk A40
  clear A40
  obtain ⟨y191, hy191⟩ : ∃ y_ : List Int, y_ = (([a2] : List Int)) := ⟨_, rfl⟩
  replace H : (if 0 ≤ (mn (a0.size : Int) 300) then (if (mn (a0.size : Int) 300) ≤ (a0.size : Int) then (if (strOfNums y191).size + (a0.extract 0 ((mn (a0.size : Int) 300) : Int).toNat).size ≤ 9223372036854775807 then ((workpiecelaw01_pick.f a1 (wrap64 ((((strOfNums y191) ++ (a0.extract 0 ((mn (a0.size : Int) 300) : Int).toNat)).size : Int) + 1))).bind fun t194 => ((some (([0, t194] : List Int) : List Int)).bind fun y195 => (workpiecelaw01_WireUnique.l0 k t190 ((strOfNums y191) ++ (a0.extract 0 ((mn (a0.size : Int) 300) : Int).toNat)) y195 (y195.length : Int) 0))) else (none)) else (none)) else (none)) = some r := by first | (rw [hy191]; with_reducible exact H) | (have H2_ := (Option.bind_some _ _).symm.trans H; rw [hy191]; with_reducible exact H2_) | (have H2_ := (Option.bind_some _ _).symm.trans H; with_reducible exact H2_) | with_reducible exact H | (rw [hy191]; exact H) | exact H
  have Ny191 := Aside0.mk hy191
  clear hy191
  obtain ⟨ji5, hji5⟩ : ∃ j_ : Int, (mn (a0.size : Int) 300) = j_ := ⟨_, rfl⟩
  replace H : (if 0 ≤ (ji5) then (if (ji5) ≤ (a0.size : Int) then (if (strOfNums y191).size + (a0.extract 0 ((ji5) : Int).toNat).size ≤ 9223372036854775807 then ((workpiecelaw01_pick.f a1 (wrap64 ((((strOfNums y191) ++ (a0.extract 0 ((ji5) : Int).toNat)).size : Int) + 1))).bind fun t194 => ((some (([0, t194] : List Int) : List Int)).bind fun y195 => (workpiecelaw01_WireUnique.l0 k t190 ((strOfNums y191) ++ (a0.extract 0 ((ji5) : Int).toNat)) y195 (y195.length : Int) 0))) else (none)) else (none)) else (none)) = some r := by first | (rw [hji5] at H; exact H) | (simp only [hji5] at H ⊢; exact H)
  (try rw [hji5] at A4)
  (try (have hji5h : ji5 ≤ 300 := by (rw [← hji5]; unfold mn; (repeat' split) <;> omega)))
  (try (have hji5g : ji5 ≤ 64 := by omega))
  (try (have hji5l : 0 ≤ ji5 := by (rw [← hji5]; unfold mn; (repeat' split) <;> omega)))
  (try (have hji5m : 0 ≤ ji5 := by omega))
  have hji5_ : (if 300 < (a0.size : Int) then 300 else (a0.size : Int)) = ji5 := hji5
  by_cases c6 : 0 ≤ (ji5)
  · rw [if_pos c6] at H
    have c6b0 := eq_true c6
    have c6b1 : decide (0 ≤ (ji5)) = true := decide_eq_true c6
    clear c6
    by_cases c7 : (ji5) ≤ (a0.size : Int)
    · rw [if_pos c7] at H
      have c7b0 := eq_true c7
      have c7b1 : decide ((ji5) ≤ (a0.size : Int)) = true := decide_eq_true c7
      clear c7
      by_cases c8 : (strOfNums y191).size + (a0.extract 0 ((ji5) : Int).toNat).size ≤ 9223372036854775807
      · rw [if_pos c8] at H
        have c8b0 := eq_true c8
        have c8b1 : decide ((strOfNums y191).size + (a0.extract 0 ((ji5) : Int).toNat).size ≤ 9223372036854775807) = true := decide_eq_true c8
        try have c8b2 : (9223372036854775807 < (strOfNums y191).size + (a0.extract 0 ((ji5) : Int).toNat).size) = False := eq_false (Nat.not_lt.2 c8)
        have c8b3 : (9223372036854775807 < (strOfNums y191).size + ji5.toNat) = False := part_false (by have h_ : (ji5) ≤ (a0.size : Int) := of_decide_eq_true (by assumption); omega) c8b2
        replace H := Option.bind_eq_some_iff.mp H
        obtain ⟨t194, A90, H⟩ := H
        replace H : ((some (([0, t194] : List Int) : List Int)).bind fun y195 => (workpiecelaw01_WireUnique.l0 k t190 ((strOfNums y191) ++ (a0.extract 0 ((ji5) : Int).toNat)) y195 (y195.length : Int) 0)) = some r := H
        have A9 := Aside0.mk A90
        clear A90
        obtain ⟨y195, hy195⟩ : ∃ y_ : List Int, y_ = (([0, t194] : List Int)) := ⟨_, rfl⟩
        replace H : (workpiecelaw01_WireUnique.l0 k t190 ((strOfNums y191) ++ (a0.extract 0 ((ji5) : Int).toNat)) y195 (y195.length : Int) 0) = some r := by first | (rw [hy195]; with_reducible exact H) | (have H2_ := (Option.bind_some _ _).symm.trans H; rw [hy195]; with_reducible exact H2_) | (have H2_ := (Option.bind_some _ _).symm.trans H; with_reducible exact H2_) | with_reducible exact H | (rw [hy195]; exact H) | exact H
        have Ny195 := Aside0.mk hy195
        clear hy195
        have H' := Aside0.mk H
        clear H
        go_enter Tryd.func5, Tryd.ntmps5
        try go_wp2_with (first | ((with_reducible refine gate_callee (f := 10) rfl ?_); refine goesL_ (some 21) rfl rfl Tryd.func10 (by kernel_rfl) rfl #[] rfl (by (try simp only [List.map_toArray, List.map_cons, List.map_nil]); first | done | rfl | (simp only [List.length_drop, List.length_take]; rfl)) ?_; (with_reducible refine (workpiecelaw01_sane.calls k  t190 _ A4.out (sane_is A4.out) ?hNib).mono ?_); (case hNib => exact ⟨nib_below hN.out (by repeat (first | (with_reducible first | exact HB.out | apply below_alloc | apply pw_below_drewN | apply below_drew1) | exact HB.out))⟩); rintro e w10 ⟨rfl, hb⟩; refine ⟨_, rfl, ?_⟩; have n0_ := Aside0.mk (below_step (by repeat (first | (with_reducible first | exact HB.out | apply below_alloc | apply pw_below_drewN | apply below_drew1) | exact HB.out)) hb); clear HB; have HB := n0_; clear n0_; (try clear hb); (try clear hb2); (try clear hk); (try clear hi)))
        have n0_ := Aside0.mk (below_drew1 HB.out)
        clear HB
        have HB := n0_
        clear n0_
        refine start_ (n := 10) (S := fun w' => True) (ds := []) #[false, false, false, false, false, false, false, false, false, false] (by kernel_rfl) rfl rfl trivial (fun hHeld => ?_); refine with_tabW workpiecelaw01_WireUnique.tab2 workpiecelaw01_WireUnique.bits2 (fun HT_ HW_ => ?_)
        generalize w10.drew = w11 at HB hHeld ⊢
        refine pure_ (i := 0) (N := some 22) (v := ?_) (a' := ?_) #[true, false, false, false, false, false, false, false, false, false] rfl rfl (any_of HT_.out (by kernel_rfl)) (fun _ _ _ h => h) (Or.inl ⟨by rfl, ?_⟩) ?_ ?_
        rotate_left
        · intro w'
          go_simp
          with_reducible rfl
        rotate_left
        · simp only [Act.put, List.setIfInBounds_toArray, List.set_cons_zero, List.set_cons_succ, i64_w, i32_w]
          rfl
        refine pure_ (i := 3) (N := some 25) (v := ?_) (a' := ?_) #[true, false, false, true, false, false, false, false, false, false] rfl rfl (any_of HT_.out (by kernel_rfl)) (fun _ _ _ h => h) (Or.inl ⟨by rfl, ?_⟩) ?_ ?_
        rotate_left
        · intro w'
          go_simp
          with_reducible rfl
        rotate_left
        · simp only [Act.put, List.setIfInBounds_toArray, List.set_cons_zero, List.set_cons_succ, i64_w, i32_w]
          rfl
        refine pure_ (i := 4) (N := some 26) (v := ?_) (a' := ?_) #[true, false, false, true, true, false, false, false, false, false] rfl rfl (any_of HT_.out (by kernel_rfl)) (fun _ _ _ h => h) (Or.inl ⟨by rfl, ?_⟩) ?_ ?_
        rotate_left
        · intro w'
          go_simp
          with_reducible rfl
        rotate_left
        · simp only [Act.put, List.setIfInBounds_toArray, List.set_cons_zero, List.set_cons_succ, i64_w, i32_w]
          rfl
        refine pure_ (i := 5) (N := some 27) (v := ?_) (a' := ?_) #[true, false, false, true, true, true, false, false, false, false] rfl rfl (any_of HT_.out (by kernel_rfl)) (fun _ _ _ h => h) (Or.inl ⟨by rfl, ?_⟩) ?_ ?_
        rotate_left
        · intro w'
          go_simp
          with_reducible rfl
        rotate_left
        · simp only [Act.put, List.setIfInBounds_toArray, List.set_cons_zero, List.set_cons_succ, i64_w, i32_w]
          rfl
        refine pure_ (i := 6) (N := some 28) (v := ?_) (a' := ?_) #[true, false, false, true, true, true, true, false, false, false] rfl rfl (any_of HT_.out (by kernel_rfl)) (fun _ _ _ h => h) (Or.inl ⟨by rfl, ?_⟩) ?_ ?_
        rotate_left
        · intro w'
          go_simp
          with_reducible rfl
        rotate_left
        · simp only [Act.put, List.setIfInBounds_toArray, List.set_cons_zero, List.set_cons_succ, i64_w, i32_w]
          rfl
        refine pure_ (i := 7) (N := some 29) (v := ?_) (a' := ?_) #[true, false, false, true, true, true, true, true, false, false] rfl rfl (any_of HT_.out (by kernel_rfl)) (fun _ _ _ h => h) (Or.inl ⟨by rfl, ?_⟩) ?_ ?_
        rotate_left
        · intro w'
          go_simp
          with_reducible rfl
        rotate_left
        · simp only [Act.put, List.setIfInBounds_toArray, List.set_cons_zero, List.set_cons_succ, i64_w, i32_w]
          rfl
        refine one_ (i := 1) (N := some 23) #[true, true, false, true, true, true, true, true, false, false] rfl rfl (one_of HT_.out (by kernel_rfl)) (by decide) (fun K hK => ?_)
        refine Kd.R_lit_step (Kd.int .u8) _ 5 ?hg (N := 23) ?hd (xs := ([a2] : List Int)) (inner := [.int .u8 a2]) (ok := fun _ => True) (okp := fun _ => True) ?hr ?hp (fun _ hk => hk) trivial (Below.refl _ _) (Nat.le_refl _) (by simp) ?_; (case hd => rfl); (case hg => rfl); (case hr => first | (go_simp; done) | (go_simp; rfl)); (case hp => exact (Reps.one (show Kd.M (Kd.int .u8) _ _ _ a2 [.int .u8 a2] from rfl) (Reps.none _ _)))
        intro v192 w12 ho13 hb hg_ hnew_
        clear hg_ hnew_
        (first | rw [← Ny191.out] at ho13 | (simp only [Int.reduceToNat] at ho13; rw [← Ny191.out] at ho13))
        have n0_ := Aside0.mk (Kd.R_lower ho13 (below_size (by repeat (first | (with_reducible first | exact HB.out | apply below_alloc | apply pw_below_drewN | apply below_drew1) | exact HB.out))))
        have n1_ := Aside0.mk (below_step (by repeat (first | (with_reducible first | exact HB.out | apply below_alloc | apply pw_below_drewN | apply below_drew1) | exact HB.out)) hb)
        clear HB
        have HO193 := n0_
        have HB := n1_
        clear n0_ n1_
        clear hb ho13
        refine hK.out _ _ trivial (fun hHeld => ?_)
        clear hK K
        refine norm_ (a' := ?_) ?_ ?_
        rotate_left
        · show Act.put _ (some 23) _ = _
          simp only [Act.put, List.setIfInBounds_toArray, List.set_cons_zero, List.set_cons_succ, i64_w, i32_w]
          rfl
        refine one_ (i := 2) (N := some 24) #[true, true, true, true, true, true, true, true, false, false] rfl rfl (one_of HT_.out (by kernel_rfl)) (by decide) (fun K hK => ?_)
        have hcv14 := own_string (P := Tryd.prog) Tryd.underlying38 Tryd.underlying5 Tryd.underlying9 (Kd.own_of_R HO193.out)
        refine value_ (w1 := ?_) (v := ?_) (by rfl) rfl ?_ ?_
        rotate_left 2
        · go_simp
          constructor
          · rfl
          · rfl
        clear hcv14
        refine hK.out _ _ trivial (fun hHeld => ?_)
        clear hK K
        refine norm_ (a' := ?_) ?_ ?_
        rotate_left
        · show Act.put _ (some 24) _ = _
          simp only [Act.put, List.setIfInBounds_toArray, List.set_cons_zero, List.set_cons_succ, i64_w, i32_w]
          rfl
        refine pure_ (i := 8) (N := some 30) (v := ?_) (a' := ?_) #[true, true, true, true, true, true, true, true, true, false] rfl rfl (any_of HT_.out (by kernel_rfl)) (fun _ _ _ h => h) (Or.inl ⟨by rfl, ?_⟩) ?_ ?_
        rotate_left
        · intro w'
          go_simp
          with_reducible rfl
        rotate_left
        · simp only [Act.put, List.setIfInBounds_toArray, List.set_cons_zero, List.set_cons_succ, i64_w, i32_w]
          rfl
        refine pure_ (i := 9) (N := some 8) (v := ?_) (a' := ?_) #[true, true, true, true, true, true, true, true, true, true] rfl rfl (any_of HT_.out (by kernel_rfl)) (fun _ _ _ h => h) (Or.inl ⟨by rfl, ?_⟩) ?_ ?_
        rotate_left
        · intro w'
          go_simp
          with_reducible rfl
        rotate_left
        · simp only [Act.put, List.setIfInBounds_toArray, List.set_cons_zero, List.set_cons_succ, i64_w, i32_w]
          rfl
        refine done_ (done_of HT_.out (by kernel_rfl)) ?_
        obtain ⟨T_, hT_⟩ : ∃ T_ : ByteArray, ((strOfNums y191) ++ (a0.extract 0 ((ji5) : Int).toNat)) = T_ := ⟨_, rfl⟩
        rw [hT_] at H' A9 ⊢
        clear hT_
        try go_wp2_with (first | ((with_reducible refine gate_callee (f := 14) rfl ?_); refine goesL_ (some 35) rfl rfl Tryd.func14 (by kernel_rfl) rfl #[.int .i64 a1, .int .i64 (wrap64 ((T_.size : Int) + 1))] rfl (by (try simp only [List.map_toArray, List.map_cons, List.map_nil]); first | done | (simp only [hji5]; rfl) | rfl | (simp only [List.length_drop, List.length_take]; rfl)) ?_; (with_reducible refine (workpiecelaw01_pick.calls a1 (wrap64 ((T_.size : Int) + 1)) t194 _ A9.out).mono ?_); rintro e w' ⟨rfl, ⟨nd, rfl⟩⟩; refine ⟨_, rfl, ?_⟩) | ((with_reducible refine gate_dst (N := 36) rfl ?_); (try (refine gate_guard (by rfl) ?_; dsimp only)); refine Kd.R_lit (Kd.int .i64) _ 3 ?hg (N := 36) ?hd (xs := ([0, t194] : List Int)) (inner := [.int .i64 0, .int .i64 t194]) (ok := fun _ => True) (okp := fun _ => True) ?hr ?hp (fun _ hk => hk) trivial (Below.refl _ _) (Nat.le_refl _) (by simp) ?_; (case hd => rfl); (case hg => rfl); (case hr => first | (go_simp; done) | (go_simp; rfl)); (case hp => exact (Reps.one (show Kd.M (Kd.int .i64) _ _ _ 0 [.int .i64 0] from rfl) (Reps.one (show Kd.M (Kd.int .i64) _ _ _ t194 [.int .i64 t194] from rfl) (Reps.none _ _)))); intro v196 w15 ho16 hb hg_ hnew_; clear hg_ hnew_; (first | rw [← Ny195.out] at ho16 | (simp only [Int.reduceToNat] at ho16; rw [← Ny195.out] at ho16)); have n0_ := Aside0.mk (Kd.R_below (by (with_reducible repeat (first | apply Kd.R_alloc | apply Kd.R_drewN | apply Kd.R_drew)); exact HO193.out) hb); have n1_ := Aside0.mk (Kd.R_lower ho16 (below_size (by repeat (first | (with_reducible first | exact HB.out | apply below_alloc | apply pw_below_drewN | apply below_drew1) | exact HB.out)))); have n2_ := Aside0.mk (below_step (by repeat (first | (with_reducible first | exact HB.out | apply below_alloc | apply pw_below_drewN | apply below_drew1) | exact HB.out)) hb); clear HO193; clear HB; have HO193 := n0_; have HO197 := n1_; have HB := n2_; clear n0_ n1_ n2_; clear hb ho16; obtain ⟨Ao17, co17, eo17⟩ := Kd.R_slice HO197.out; subst eo17))
        go_loopg [38] k (fun kq v38 w' => ∃ (x38_1 : Int), v38 = .int .i64 x38_1 ∧ Aside0 (workpiecelaw01_WireUnique.l0 kq t190 T_ y195 (y195.length : Int) x38_1 = some r) ∧ Aside0 (kq ≤ k) ∧ Aside0 (Kd.R (Kd.int .i64) 3 w' w.heap.size (fun _ => True) (.slice Ao17 y195.length co17) y195) ∧ Aside0 (Below w.heap.size w w'))
        case atStart => exact ⟨(0), (by first | rfl | (simp; done) | (simp [*]; done)), H', ⟨Nat.le_refl _⟩, ⟨by (with_reducible repeat (first | apply Kd.R_alloc | apply Kd.R_drewN | apply Kd.R_drew)); exact HO197.out⟩, ⟨by repeat (first | (with_reducible first | exact HB.out | apply below_alloc | apply pw_below_drewN | apply below_drew1) | exact HB.out)⟩⟩
        case round =>
          clear H'
          try clear c1
          try clear hcv1
          try clear p2
          try clear c5
          try clear c6
          try clear c6b0
          try clear c6b1
          try clear p6
          try clear c7
          try clear c7b0
          try clear c7b1
          try clear c8
          try clear c8b0
          try clear c8b1
          try clear c8b2
          try clear c10
          try clear c14
          try clear hcv14
          obtain ⟨x38_1, rfl, HA, HK1, HO_36, HB⟩ := hrel
          cases gk with
          | zero => exact absurd HA.out (by simp [workpiecelaw01_WireUnique.l0])
          | succ k1 =>
            have H := HA.out
            clear HA
            simp only [workpiecelaw01_WireUnique.l0] at H
            by_cases c18 : x38_1 < (y195.length : Int)
            · rw [if_pos c18] at H
              have c18b0 : decide (x38_1 < (y195.length : Int)) = true := decide_eq_true c18
              clear c18
              by_cases c19 : 0 ≤ x38_1
              · rw [if_pos c19] at H
                have c19b0 : decide (0 ≤ x38_1) = true := decide_eq_true c19
                clear c19
                by_cases c20 : x38_1 < (y195.length : Int)
                · rw [if_pos c20] at H
                  have c20b0 : decide (x38_1 < (y195.length : Int)) = true := decide_eq_true c20
                  clear c20
                  replace H := Option.bind_eq_some_iff.mp H
                  obtain ⟨⟨t199, t200, t201⟩, A210, H⟩ := H
                  replace H : ((wire_PutInt.f t199).bind fun bt202 => (if t201 = 0 then (if bt202.2 = 0 then (if t200 < (rd y195 x38_1) then (workpiecelaw01_WireUnique.j1 k1 t190 T_ (rd y195 x38_1) y195 (y195.length : Int) x38_1 true) else (if t200 > (T_.size : Int) then (workpiecelaw01_WireUnique.j1 k1 t190 T_ (rd y195 x38_1) y195 (y195.length : Int) x38_1 true) else (if 0 ≤ (rd y195 x38_1) then (if (rd y195 x38_1) ≤ t200 then (if t200 ≤ (T_.size : Int) then (if (T_.extract ((rd y195 x38_1) : Int).toNat (t200 : Int).toNat).toList = bt202.1.toList then (workpiecelaw01_WireUnique.j1 k1 t190 T_ (rd y195 x38_1) y195 (y195.length : Int) x38_1 false) else (workpiecelaw01_WireUnique.j1 k1 t190 T_ (rd y195 x38_1) y195 (y195.length : Int) x38_1 true)) else (none)) else (none)) else (none)))) else (workpiecelaw01_WireUnique.j1 k1 t190 T_ (rd y195 x38_1) y195 (y195.length : Int) x38_1 true)) else (if t201 = 10 then (if t199 = 0 then (workpiecelaw01_WireUnique.j1 k1 t190 T_ (rd y195 x38_1) y195 (y195.length : Int) x38_1 (t200 != 0)) else (workpiecelaw01_WireUnique.j1 k1 t190 T_ (rd y195 x38_1) y195 (y195.length : Int) x38_1 true)) else (workpiecelaw01_WireUnique.j1 k1 t190 T_ (rd y195 x38_1) y195 (y195.length : Int) x38_1 true)))) = some r := H
                  have A21 := Aside0.mk A210
                  clear A210
                  replace H := Option.bind_eq_some_iff.mp H
                  obtain ⟨⟨t202, t203⟩, A220, H⟩ := H
                  replace H : (if t201 = 0 then (if t203 = 0 then (if t200 < (rd y195 x38_1) then (workpiecelaw01_WireUnique.j1 k1 t190 T_ (rd y195 x38_1) y195 (y195.length : Int) x38_1 true) else (if t200 > (T_.size : Int) then (workpiecelaw01_WireUnique.j1 k1 t190 T_ (rd y195 x38_1) y195 (y195.length : Int) x38_1 true) else (if 0 ≤ (rd y195 x38_1) then (if (rd y195 x38_1) ≤ t200 then (if t200 ≤ (T_.size : Int) then (if (T_.extract ((rd y195 x38_1) : Int).toNat (t200 : Int).toNat).toList = t202.toList then (workpiecelaw01_WireUnique.j1 k1 t190 T_ (rd y195 x38_1) y195 (y195.length : Int) x38_1 false) else (workpiecelaw01_WireUnique.j1 k1 t190 T_ (rd y195 x38_1) y195 (y195.length : Int) x38_1 true)) else (none)) else (none)) else (none)))) else (workpiecelaw01_WireUnique.j1 k1 t190 T_ (rd y195 x38_1) y195 (y195.length : Int) x38_1 true)) else (if t201 = 10 then (if t199 = 0 then (workpiecelaw01_WireUnique.j1 k1 t190 T_ (rd y195 x38_1) y195 (y195.length : Int) x38_1 (t200 != 0)) else (workpiecelaw01_WireUnique.j1 k1 t190 T_ (rd y195 x38_1) y195 (y195.length : Int) x38_1 true)) else (workpiecelaw01_WireUnique.j1 k1 t190 T_ (rd y195 x38_1) y195 (y195.length : Int) x38_1 true))) = some r := H
                  have A22 := Aside0.mk A220
                  clear A220
                  have HC23 := Aside0.mk H
                  clear H
                  have p198 : 0 ≤ (x38_1 : Int) := of_decide_eq_true (by first | (with_reducible assumption) | assumption)
                  have q198 : x38_1 < (y195.length : Int) := of_decide_eq_true (by first | (with_reducible assumption) | assumption)
                  obtain ⟨ad198, e198, hx198_0⟩ := Kd.at_int (Kd.R_reads' HO_36.out).2.2 x38_1 p198 q198
                  cases e198
                  replace p198 := eq_true p198
                  replace q198 := eq_true q198
                  go_upto_region 8 with (first | ((with_reducible refine gate_callee (f := 15) rfl ?_); refine goesL_ (some 45) rfl rfl Tryd.func15 (by kernel_rfl) rfl #[.string T_, .int .i64 (rd y195 x38_1)] rfl (by (try simp only [List.map_toArray, List.map_cons, List.map_nil]); first | done | (simp only [hji5]; rfl) | rfl | (simp only [List.length_drop, List.length_take]; rfl)) ?_; (with_reducible refine (wire_Int.calls k1 T_ (rd y195 x38_1) t199 t200 t201 _ A21.out).mono ?_); rintro e w' ⟨rfl, ⟨nd, rfl⟩⟩; refine ⟨_, rfl, ?_⟩) | ((with_reducible refine gate_callee (f := 12) rfl ?_); refine goesL_ (some 51) rfl rfl Tryd.func12 (by kernel_rfl) rfl #[.int .i64 t199] rfl (by (try simp only [List.map_toArray, List.map_cons, List.map_nil]); first | done | rfl | (simp only [List.length_drop, List.length_take]; rfl)) ?_; (with_reducible refine (wire_PutInt.calls t199 t202 t203 _ A22.out).mono ?_); rintro e w24 ⟨rfl, hb⟩; refine ⟨_, rfl, ?_⟩; have n0_ := Aside0.mk (Kd.R_below (by (with_reducible repeat (first | apply Kd.R_alloc | apply Kd.R_drewN | apply Kd.R_drew)); exact HO_36.out) hb); have n1_ := Aside0.mk (below_step (by repeat (first | (with_reducible first | exact HB.out | apply below_alloc | apply pw_below_drewN | apply below_drew1) | exact HB.out)) hb); clear HO_36; clear HB; have HO_36 := n0_; have HB := n1_; clear n0_ n1_; (try clear hb); (try clear hb2); (try clear hk); (try clear hi)))
                  (try simp only [Act.put, List.setIfInBounds_toArray, List.set_cons_zero, List.set_cons_succ])
                  go_cut [94] (fun v94 wc => ∃ (kq : Nat) (x94_22 : Bool), v94 = .bool x94_22 ∧ Aside0 (workpiecelaw01_WireUnique.j1 kq t190 T_ (rd y195 x38_1) y195 (y195.length : Int) x38_1 x94_22 = some r) ∧ Aside0 (kq ≤ k1) ∧ Aside0 (Kd.R (Kd.int .i64) 3 wc w.heap.size (fun _ => True) (.slice (some ad198) y195.length co17) y195) ∧ Aside0 (Below w.heap.size w wc))
                  case first =>
                    have H := HC23.out
                    clear HC23
                    by_cases c25 : t201 = 0
                    · rw [if_pos c25] at H
                      have c25b0 : (t201 == 0) = true := beq_iff_eq.mpr c25
                      have c25b1 : (t201 != 0) = false := bne_eq_false_iff_eq.mpr c25
                      clear c25
                      (first | rw [c25b0] | (simp only [i64_w, i32_w]; rw [c25b0]) | skip)
                      by_cases c26 : t203 = 0
                      · rw [if_pos c26] at H
                        have c26b0 : (t203 == 0) = true := beq_iff_eq.mpr c26
                        have c26b1 : (t203 != 0) = false := bne_eq_false_iff_eq.mpr c26
                        clear c26
                        by_cases c27 : t200 < (rd y195 x38_1)
                        · rw [if_pos c27] at H
                          have c27b0 : decide (t200 < (rd y195 x38_1)) = true := decide_eq_true c27
                          clear c27
                          have H' := Aside0.mk H
                          clear H
                          go_wp2
                          go_meet
                          case rel => exact ⟨_, (true), (by first | rfl | (simp; done) | (simp [*]; done)), H', ⟨by have := HK1.out; first | omega | exact Nat.le_refl _⟩, ⟨by (with_reducible repeat (first | apply Kd.R_alloc | apply Kd.R_drewN | apply Kd.R_drew)); exact HO_36.out⟩, ⟨by repeat (first | (with_reducible first | exact HB.out | apply below_alloc | apply pw_below_drewN | apply below_drew1) | exact HB.out)⟩⟩
                        · rw [if_neg c27] at H
                          have c27b0 : decide (t200 < (rd y195 x38_1)) = false := decide_eq_false c27
                          clear c27
                          by_cases c28 : t200 > (T_.size : Int)
                          · rw [if_pos c28] at H
                            have c28b0 : decide ((T_.size : Int) < t200) = true := decide_eq_true c28
                            clear c28
                            have H' := Aside0.mk H
                            clear H
                            go_wp2
                            go_meet
                            case rel => exact ⟨_, (true), (by first | rfl | (simp; done) | (simp [*]; done)), H', ⟨by have := HK1.out; first | omega | exact Nat.le_refl _⟩, ⟨by (with_reducible repeat (first | apply Kd.R_alloc | apply Kd.R_drewN | apply Kd.R_drew)); exact HO_36.out⟩, ⟨by repeat (first | (with_reducible first | exact HB.out | apply below_alloc | apply pw_below_drewN | apply below_drew1) | exact HB.out)⟩⟩
                          · rw [if_neg c28] at H
                            have c28b0 : decide ((T_.size : Int) < t200) = false := decide_eq_false c28
                            clear c28
                            by_cases c29 : 0 ≤ (rd y195 x38_1)
                            · rw [if_pos c29] at H
                              have c29b0 := eq_true c29
                              have c29b1 : decide (0 ≤ (rd y195 x38_1)) = true := decide_eq_true c29
                              clear c29
                              by_cases c30 : (rd y195 x38_1) ≤ t200
                              · rw [if_pos c30] at H
                                have c30b0 := eq_true c30
                                have c30b1 : decide ((rd y195 x38_1) ≤ t200) = true := decide_eq_true c30
                                clear c30
                                by_cases c31 : t200 ≤ (T_.size : Int)
                                · rw [if_pos c31] at H
                                  have c31b0 := eq_true c31
                                  have c31b1 : decide (t200 ≤ (T_.size : Int)) = true := decide_eq_true c31
                                  by_cases c32 : (T_.extract ((rd y195 x38_1) : Int).toNat (t200 : Int).toNat).toList = t202.toList
                                  · rw [if_pos c32] at H
                                    have c32b0 : ((T_.extract ((rd y195 x38_1) : Int).toNat (t200 : Int).toNat).toList == t202.toList) = true := beq_iff_eq.mpr c32
                                    have c32b1 : ((T_.extract ((rd y195 x38_1) : Int).toNat (t200 : Int).toNat).toList != t202.toList) = false := bne_eq_false_iff_eq.mpr c32
                                    clear c32
                                    have H' := Aside0.mk H
                                    clear H
                                    go_wp2
                                    go_meet
                                    case rel => exact ⟨_, (false), (by first | rfl | (simp; done) | (simp [*]; done)), H', ⟨by have := HK1.out; first | omega | exact Nat.le_refl _⟩, ⟨by (with_reducible repeat (first | apply Kd.R_alloc | apply Kd.R_drewN | apply Kd.R_drew)); exact HO_36.out⟩, ⟨by repeat (first | (with_reducible first | exact HB.out | apply below_alloc | apply pw_below_drewN | apply below_drew1) | exact HB.out)⟩⟩
                                  · rw [if_neg c32] at H
                                    have c32b0 : ((T_.extract ((rd y195 x38_1) : Int).toNat (t200 : Int).toNat).toList == t202.toList) = false := beq_eq_false_iff_ne.mpr c32
                                    have c32b1 : ((T_.extract ((rd y195 x38_1) : Int).toNat (t200 : Int).toNat).toList != t202.toList) = true := bne_iff_ne.mpr c32
                                    have H' := Aside0.mk H
                                    clear H
                                    go_wp2
                                    go_meet
                                    case rel => exact ⟨_, (true), (by first | rfl | (simp; done) | (simp [*]; done)), H', ⟨by have := HK1.out; first | omega | exact Nat.le_refl _⟩, ⟨by (with_reducible repeat (first | apply Kd.R_alloc | apply Kd.R_drewN | apply Kd.R_drew)); exact HO_36.out⟩, ⟨by repeat (first | (with_reducible first | exact HB.out | apply below_alloc | apply pw_below_drewN | apply below_drew1) | exact HB.out)⟩⟩
                                · rw [if_neg c31] at H
                                  exact absurd H (by simp)
                              · rw [if_neg c30] at H
                                exact absurd H (by simp)
                            · rw [if_neg c29] at H
                              exact absurd H (by simp)
                      · rw [if_neg c26] at H
                        have c26b0 : (t203 == 0) = false := beq_eq_false_iff_ne.mpr c26
                        have c26b1 : (t203 != 0) = true := bne_iff_ne.mpr c26
                        have H' := Aside0.mk H
                        clear H
                        go_wp2
                        go_meet
                        case rel => exact ⟨_, (true), (by first | rfl | (simp; done) | (simp [*]; done)), H', ⟨by have := HK1.out; first | omega | exact Nat.le_refl _⟩, ⟨by (with_reducible repeat (first | apply Kd.R_alloc | apply Kd.R_drewN | apply Kd.R_drew)); exact HO_36.out⟩, ⟨by repeat (first | (with_reducible first | exact HB.out | apply below_alloc | apply pw_below_drewN | apply below_drew1) | exact HB.out)⟩⟩
                    · rw [if_neg c25] at H
                      have c25b0 : (t201 == 0) = false := beq_eq_false_iff_ne.mpr c25
                      have c25b1 : (t201 != 0) = true := bne_iff_ne.mpr c25
                      (first | rw [c25b0] | (simp only [i64_w, i32_w]; rw [c25b0]) | skip)
                      by_cases c33 : t201 = 10
                      · rw [if_pos c33] at H
                        have c33b0 : (t201 == 10) = true := beq_iff_eq.mpr c33
                        have c33b1 : (t201 != 10) = false := bne_eq_false_iff_eq.mpr c33
                        clear c33
                        by_cases c34 : t199 = 0
                        · rw [if_pos c34] at H
                          have c34b0 : (t199 == 0) = true := beq_iff_eq.mpr c34
                          have c34b1 : (t199 != 0) = false := bne_eq_false_iff_eq.mpr c34
                          clear c34
                          have H' := Aside0.mk H
                          clear H
                          go_wp2
                          go_meet
                          case rel => exact ⟨_, ((t200 != 0)), (by first | rfl | (simp; done) | (simp [*]; done)), H', ⟨by have := HK1.out; first | omega | exact Nat.le_refl _⟩, ⟨by (with_reducible repeat (first | apply Kd.R_alloc | apply Kd.R_drewN | apply Kd.R_drew)); exact HO_36.out⟩, ⟨by repeat (first | (with_reducible first | exact HB.out | apply below_alloc | apply pw_below_drewN | apply below_drew1) | exact HB.out)⟩⟩
                        · rw [if_neg c34] at H
                          have c34b0 : (t199 == 0) = false := beq_eq_false_iff_ne.mpr c34
                          have c34b1 : (t199 != 0) = true := bne_iff_ne.mpr c34
                          have H' := Aside0.mk H
                          clear H
                          go_wp2
                          go_meet
                          case rel => exact ⟨_, (true), (by first | rfl | (simp; done) | (simp [*]; done)), H', ⟨by have := HK1.out; first | omega | exact Nat.le_refl _⟩, ⟨by (with_reducible repeat (first | apply Kd.R_alloc | apply Kd.R_drewN | apply Kd.R_drew)); exact HO_36.out⟩, ⟨by repeat (first | (with_reducible first | exact HB.out | apply below_alloc | apply pw_below_drewN | apply below_drew1) | exact HB.out)⟩⟩
                      · rw [if_neg c33] at H
                        have c33b0 : (t201 == 10) = false := beq_eq_false_iff_ne.mpr c33
                        have c33b1 : (t201 != 10) = true := bne_iff_ne.mpr c33
                        have H' := Aside0.mk H
                        clear H
                        go_wp2
                        go_meet
                        case rel => exact ⟨_, (true), (by first | rfl | (simp; done) | (simp [*]; done)), H', ⟨by have := HK1.out; first | omega | exact Nat.le_refl _⟩, ⟨by (with_reducible repeat (first | apply Kd.R_alloc | apply Kd.R_drewN | apply Kd.R_drew)); exact HO_36.out⟩, ⟨by repeat (first | (with_reducible first | exact HB.out | apply below_alloc | apply pw_below_drewN | apply below_drew1) | exact HB.out)⟩⟩
                  case rest =>
                    clear HC23
                    try clear c1
                    try clear p1
                    try clear q1
                    try clear hx1
                    try clear hcv1
                    try clear c2
                    try clear p2
                    try clear c3
                    try clear c5
                    try clear c6
                    try clear c6b0
                    try clear c6b1
                    try clear p6
                    try clear c7
                    try clear c7b0
                    try clear c7b1
                    try clear c8
                    try clear c8b0
                    try clear c8b1
                    try clear c8b2
                    try clear c10
                    try clear c12
                    try clear c14
                    try clear hcv14
                    try clear c15
                    try clear c18
                    try clear c18b0
                    try clear c19
                    try clear c19b0
                    try clear p19
                    try clear q19
                    try clear hx19
                    try clear c20
                    try clear c20b0
                    try clear c25
                    try clear c25b0
                    try clear c25b1
                    try clear c26
                    try clear c26b0
                    try clear c26b1
                    try clear c27
                    try clear c27b0
                    try clear c28
                    try clear c28b0
                    try clear c29
                    try clear c29b0
                    try clear c29b1
                    try clear c30
                    try clear c30b0
                    try clear c30b1
                    try clear c31
                    try clear c31b0
                    try clear c31b1
                    try clear c32
                    try clear c32b0
                    try clear c32b1
                    try clear c33
                    try clear c33b0
                    try clear c33b1
                    try clear c34
                    try clear c34b0
                    try clear c34b1
                    try clear hx198_0
                    try clear p198
                    try clear p2
                    try clear p6
                    try clear q198
                    obtain ⟨kq, x94_22, rfl, HA, HJ22, HO_36, HB⟩ := hcut
                    cases kq with
                    | zero => exact absurd HA.out (by simp [workpiecelaw01_WireUnique.j1])
                    | succ kj22 =>
                      have H := HA.out
                      clear HA
                      simp only [workpiecelaw01_WireUnique.j1] at H
                      by_cases c35 : x94_22 = true
                      · subst c35
                        have H1 : (some false) = some r := by rw [if_pos rfl] at H; exact H
                        clear H
                        have H := H1
                        clear H1
                        first
                        | exact absurd ((Option.some.inj H).trans hr) (by decide)
                        | (clear hr
                           obtain rfl := Option.some.inj H
                           go_wp2
                           go_ret
                           exact ⟨by first | rfl | (simp [errW_none, errW_some] <;> rfl) | (simp only [← hji5]; first | rfl | (simp [errW_none, errW_some] <;> rfl)) | (simp [*, errW_none, errW_some] <;> rfl), by repeat (first | (with_reducible first | exact HB.out | apply below_alloc | apply pw_below_drewN | apply below_drew1) | exact HB.out)⟩)
                      · replace c35 := Bool.eq_false_iff.mpr c35
                        subst c35
                        have H1 : ((wire_String.f kj22 T_ (rd y195 x38_1)).bind fun bt204 => ((wire_PutString.f bt204.1).bind fun bt207 => (if bt204.2.2 = 0 then (if bt207.2 = 0 then (if bt204.2.1 < (rd y195 x38_1) then (some false) else (if bt204.2.1 > (T_.size : Int) then (some false) else (if 0 ≤ (rd y195 x38_1) then (if (rd y195 x38_1) ≤ bt204.2.1 then (if bt204.2.1 ≤ (T_.size : Int) then (if (T_.extract ((rd y195 x38_1) : Int).toNat (bt204.2.1 : Int).toNat).toList = bt207.1.toList then (workpiecelaw01_WireUnique.l0 kj22 t190 T_ y195 (y195.length : Int) (wrap64 (x38_1 + 1))) else (some false)) else (none)) else (none)) else (none)))) else (some false)) else (if bt204.2.2 = 10 then (if bt204.1.toList = ([] : List UInt8) then (if bt204.2.1 = 0 then (workpiecelaw01_WireUnique.l0 kj22 t190 T_ y195 (y195.length : Int) (wrap64 (x38_1 + 1))) else (some false)) else (some false)) else (some false))))) = some r := by rw [if_neg (show ¬ (false = true) by decide)] at H; exact H
                        clear H
                        have H := H1
                        clear H1
                        replace H := Option.bind_eq_some_iff.mp H
                        obtain ⟨⟨t204, t205, t206⟩, A360, H⟩ := H
                        replace H : ((wire_PutString.f t204).bind fun bt207 => (if t206 = 0 then (if bt207.2 = 0 then (if t205 < (rd y195 x38_1) then (some false) else (if t205 > (T_.size : Int) then (some false) else (if 0 ≤ (rd y195 x38_1) then (if (rd y195 x38_1) ≤ t205 then (if t205 ≤ (T_.size : Int) then (if (T_.extract ((rd y195 x38_1) : Int).toNat (t205 : Int).toNat).toList = bt207.1.toList then (workpiecelaw01_WireUnique.l0 kj22 t190 T_ y195 (y195.length : Int) (wrap64 (x38_1 + 1))) else (some false)) else (none)) else (none)) else (none)))) else (some false)) else (if t206 = 10 then (if t204.toList = ([] : List UInt8) then (if t205 = 0 then (workpiecelaw01_WireUnique.l0 kj22 t190 T_ y195 (y195.length : Int) (wrap64 (x38_1 + 1))) else (some false)) else (some false)) else (some false)))) = some r := H
                        have A36 := Aside0.mk A360
                        clear A360
                        replace H := Option.bind_eq_some_iff.mp H
                        obtain ⟨⟨t207, t208⟩, A370, H⟩ := H
                        replace H : (if t206 = 0 then (if t208 = 0 then (if t205 < (rd y195 x38_1) then (some false) else (if t205 > (T_.size : Int) then (some false) else (if 0 ≤ (rd y195 x38_1) then (if (rd y195 x38_1) ≤ t205 then (if t205 ≤ (T_.size : Int) then (if (T_.extract ((rd y195 x38_1) : Int).toNat (t205 : Int).toNat).toList = t207.toList then (workpiecelaw01_WireUnique.l0 kj22 t190 T_ y195 (y195.length : Int) (wrap64 (x38_1 + 1))) else (some false)) else (none)) else (none)) else (none)))) else (some false)) else (if t206 = 10 then (if t204.toList = ([] : List UInt8) then (if t205 = 0 then (workpiecelaw01_WireUnique.l0 kj22 t190 T_ y195 (y195.length : Int) (wrap64 (x38_1 + 1))) else (some false)) else (some false)) else (some false))) = some r := H
                        have A37 := Aside0.mk A370
                        clear A370
                        by_cases c38 : t206 = 0
                        · rw [if_pos c38] at H
                          have c38b0 : (t206 == 0) = true := beq_iff_eq.mpr c38
                          have c38b1 : (t206 != 0) = false := bne_eq_false_iff_eq.mpr c38
                          clear c38
                          by_cases c39 : t208 = 0
                          · rw [if_pos c39] at H
                            have c39b0 : (t208 == 0) = true := beq_iff_eq.mpr c39
                            have c39b1 : (t208 != 0) = false := bne_eq_false_iff_eq.mpr c39
                            clear c39
                            by_cases c40 : t205 < (rd y195 x38_1)
                            · rw [if_pos c40] at H
                              have c40b0 : decide (t205 < (rd y195 x38_1)) = true := decide_eq_true c40
                              clear c40
                              first
                              | exact absurd ((Option.some.inj H).trans hr) (by decide)
                              | (clear hr
                                 obtain rfl := Option.some.inj H
                                 go_wp2_with (first | ((with_reducible refine gate_callee (f := 17) rfl ?_); refine goesL_ (some 98) rfl rfl Tryd.func17 (by kernel_rfl) rfl #[.string T_, .int .i64 (rd y195 x38_1)] rfl (by (try simp only [List.map_toArray, List.map_cons, List.map_nil]); first | done | (simp only [hji5]; rfl) | rfl | (simp only [List.length_drop, List.length_take]; rfl)) ?_; (with_reducible refine (wire_String.calls kj22 T_ (rd y195 x38_1) t204 t205 t206 _ A36.out).mono ?_); rintro e w' ⟨rfl, ⟨nd, rfl⟩⟩; refine ⟨_, rfl, ?_⟩) | ((with_reducible refine gate_callee (f := 19) rfl ?_); refine goesL_ (some 104) rfl rfl Tryd.func19 (by kernel_rfl) rfl #[.string t204] rfl (by (try simp only [List.map_toArray, List.map_cons, List.map_nil]); first | done | rfl | (simp only [List.length_drop, List.length_take]; rfl)) ?_; (with_reducible refine (wire_PutString.calls t204 t207 t208 _ A37.out).mono ?_); rintro e w41 ⟨rfl, hb⟩; refine ⟨_, rfl, ?_⟩; have n0_ := Aside0.mk (Kd.R_below (by (with_reducible repeat (first | apply Kd.R_alloc | apply Kd.R_drewN | apply Kd.R_drew)); exact HO_36.out) hb); have n1_ := Aside0.mk (below_step (by repeat (first | (with_reducible first | exact HB.out | apply below_alloc | apply pw_below_drewN | apply below_drew1) | exact HB.out)) hb); clear HO_36; clear HB; have HO_36 := n0_; have HB := n1_; clear n0_ n1_; (try clear hb); (try clear hb2); (try clear hk); (try clear hi)))
                                 go_ret
                                 exact ⟨by first | rfl | (simp [errW_none, errW_some] <;> rfl) | (simp only [← hji5]; first | rfl | (simp [errW_none, errW_some] <;> rfl)) | (simp [*, errW_none, errW_some] <;> rfl), by repeat (first | (with_reducible first | exact HB.out | apply below_alloc | apply pw_below_drewN | apply below_drew1) | exact HB.out)⟩)
                            · rw [if_neg c40] at H
                              have c40b0 : decide (t205 < (rd y195 x38_1)) = false := decide_eq_false c40
                              clear c40
                              by_cases c42 : t205 > (T_.size : Int)
                              · rw [if_pos c42] at H
                                have c42b0 : decide ((T_.size : Int) < t205) = true := decide_eq_true c42
                                clear c42
                                first
                                | exact absurd ((Option.some.inj H).trans hr) (by decide)
                                | (clear hr
                                   obtain rfl := Option.some.inj H
                                   go_wp2_with (first | ((with_reducible refine gate_callee (f := 17) rfl ?_); refine goesL_ (some 98) rfl rfl Tryd.func17 (by kernel_rfl) rfl #[.string T_, .int .i64 (rd y195 x38_1)] rfl (by (try simp only [List.map_toArray, List.map_cons, List.map_nil]); first | done | (simp only [hji5]; rfl) | rfl | (simp only [List.length_drop, List.length_take]; rfl)) ?_; (with_reducible refine (wire_String.calls kj22 T_ (rd y195 x38_1) t204 t205 t206 _ A36.out).mono ?_); rintro e w' ⟨rfl, ⟨nd, rfl⟩⟩; refine ⟨_, rfl, ?_⟩) | ((with_reducible refine gate_callee (f := 19) rfl ?_); refine goesL_ (some 104) rfl rfl Tryd.func19 (by kernel_rfl) rfl #[.string t204] rfl (by (try simp only [List.map_toArray, List.map_cons, List.map_nil]); first | done | rfl | (simp only [List.length_drop, List.length_take]; rfl)) ?_; (with_reducible refine (wire_PutString.calls t204 t207 t208 _ A37.out).mono ?_); rintro e w43 ⟨rfl, hb⟩; refine ⟨_, rfl, ?_⟩; have n0_ := Aside0.mk (Kd.R_below (by (with_reducible repeat (first | apply Kd.R_alloc | apply Kd.R_drewN | apply Kd.R_drew)); exact HO_36.out) hb); have n1_ := Aside0.mk (below_step (by repeat (first | (with_reducible first | exact HB.out | apply below_alloc | apply pw_below_drewN | apply below_drew1) | exact HB.out)) hb); clear HO_36; clear HB; have HO_36 := n0_; have HB := n1_; clear n0_ n1_; (try clear hb); (try clear hb2); (try clear hk); (try clear hi)))
                                   go_ret
                                   exact ⟨by first | rfl | (simp [errW_none, errW_some] <;> rfl) | (simp only [← hji5]; first | rfl | (simp [errW_none, errW_some] <;> rfl)) | (simp [*, errW_none, errW_some] <;> rfl), by repeat (first | (with_reducible first | exact HB.out | apply below_alloc | apply pw_below_drewN | apply below_drew1) | exact HB.out)⟩)
                              · rw [if_neg c42] at H
                                have c42b0 : decide ((T_.size : Int) < t205) = false := decide_eq_false c42
                                clear c42
                                by_cases c44 : 0 ≤ (rd y195 x38_1)
                                · rw [if_pos c44] at H
                                  have c44b0 := eq_true c44
                                  have c44b1 : decide (0 ≤ (rd y195 x38_1)) = true := decide_eq_true c44
                                  clear c44
                                  by_cases c45 : (rd y195 x38_1) ≤ t205
                                  · rw [if_pos c45] at H
                                    have c45b0 := eq_true c45
                                    have c45b1 : decide ((rd y195 x38_1) ≤ t205) = true := decide_eq_true c45
                                    clear c45
                                    by_cases c46 : t205 ≤ (T_.size : Int)
                                    · rw [if_pos c46] at H
                                      have c46b0 := eq_true c46
                                      have c46b1 : decide (t205 ≤ (T_.size : Int)) = true := decide_eq_true c46
                                      by_cases c47 : (T_.extract ((rd y195 x38_1) : Int).toNat (t205 : Int).toNat).toList = t207.toList
                                      · rw [if_pos c47] at H
                                        have c47b0 : ((T_.extract ((rd y195 x38_1) : Int).toNat (t205 : Int).toNat).toList == t207.toList) = true := beq_iff_eq.mpr c47
                                        have c47b1 : ((T_.extract ((rd y195 x38_1) : Int).toNat (t205 : Int).toNat).toList != t207.toList) = false := bne_eq_false_iff_eq.mpr c47
                                        clear c47
                                        have H' := Aside0.mk H
                                        clear H
                                        go_wp2_with (first | ((with_reducible refine gate_callee (f := 17) rfl ?_); refine goesL_ (some 98) rfl rfl Tryd.func17 (by kernel_rfl) rfl #[.string T_, .int .i64 (rd y195 x38_1)] rfl (by (try simp only [List.map_toArray, List.map_cons, List.map_nil]); first | done | (simp only [hji5]; rfl) | rfl | (simp only [List.length_drop, List.length_take]; rfl)) ?_; (with_reducible refine (wire_String.calls kj22 T_ (rd y195 x38_1) t204 t205 t206 _ A36.out).mono ?_); rintro e w' ⟨rfl, ⟨nd, rfl⟩⟩; refine ⟨_, rfl, ?_⟩) | ((with_reducible refine gate_callee (f := 19) rfl ?_); refine goesL_ (some 104) rfl rfl Tryd.func19 (by kernel_rfl) rfl #[.string t204] rfl (by (try simp only [List.map_toArray, List.map_cons, List.map_nil]); first | done | rfl | (simp only [List.length_drop, List.length_take]; rfl)) ?_; (with_reducible refine (wire_PutString.calls t204 t207 t208 _ A37.out).mono ?_); rintro e w48 ⟨rfl, hb⟩; refine ⟨_, rfl, ?_⟩; have n0_ := Aside0.mk (Kd.R_below (by (with_reducible repeat (first | apply Kd.R_alloc | apply Kd.R_drewN | apply Kd.R_drew)); exact HO_36.out) hb); have n1_ := Aside0.mk (below_step (by repeat (first | (with_reducible first | exact HB.out | apply below_alloc | apply pw_below_drewN | apply below_drew1) | exact HB.out)) hb); clear HO_36; clear HB; have HO_36 := n0_; have HB := n1_; clear n0_ n1_; (try clear hb); (try clear hb2); (try clear hk); (try clear hi)))
                                        go_roundg kj22
                                        case measure => have := HK1.out; have := HJ22.out; omega
                                        case rel => exact ⟨(wrap64 (x38_1 + 1)), (by first | rfl | (simp; done) | (simp [*]; done)), H', ⟨by have := HK1.out; have := HJ22.out; omega⟩, ⟨by (with_reducible repeat (first | apply Kd.R_alloc | apply Kd.R_drewN | apply Kd.R_drew)); exact HO_36.out⟩, ⟨by repeat (first | (with_reducible first | exact HB.out | apply below_alloc | apply pw_below_drewN | apply below_drew1) | exact HB.out)⟩⟩
                                      · rw [if_neg c47] at H
                                        have c47b0 : ((T_.extract ((rd y195 x38_1) : Int).toNat (t205 : Int).toNat).toList == t207.toList) = false := beq_eq_false_iff_ne.mpr c47
                                        have c47b1 : ((T_.extract ((rd y195 x38_1) : Int).toNat (t205 : Int).toNat).toList != t207.toList) = true := bne_iff_ne.mpr c47
                                        first
                                        | exact absurd ((Option.some.inj H).trans hr) (by decide)
                                        | (clear hr
                                           obtain rfl := Option.some.inj H
                                           go_wp2_with (first | ((with_reducible refine gate_callee (f := 17) rfl ?_); refine goesL_ (some 98) rfl rfl Tryd.func17 (by kernel_rfl) rfl #[.string T_, .int .i64 (rd y195 x38_1)] rfl (by (try simp only [List.map_toArray, List.map_cons, List.map_nil]); first | done | (simp only [hji5]; rfl) | rfl | (simp only [List.length_drop, List.length_take]; rfl)) ?_; (with_reducible refine (wire_String.calls kj22 T_ (rd y195 x38_1) t204 t205 t206 _ A36.out).mono ?_); rintro e w' ⟨rfl, ⟨nd, rfl⟩⟩; refine ⟨_, rfl, ?_⟩) | ((with_reducible refine gate_callee (f := 19) rfl ?_); refine goesL_ (some 104) rfl rfl Tryd.func19 (by kernel_rfl) rfl #[.string t204] rfl (by (try simp only [List.map_toArray, List.map_cons, List.map_nil]); first | done | rfl | (simp only [List.length_drop, List.length_take]; rfl)) ?_; (with_reducible refine (wire_PutString.calls t204 t207 t208 _ A37.out).mono ?_); rintro e w49 ⟨rfl, hb⟩; refine ⟨_, rfl, ?_⟩; have n0_ := Aside0.mk (Kd.R_below (by (with_reducible repeat (first | apply Kd.R_alloc | apply Kd.R_drewN | apply Kd.R_drew)); exact HO_36.out) hb); have n1_ := Aside0.mk (below_step (by repeat (first | (with_reducible first | exact HB.out | apply below_alloc | apply pw_below_drewN | apply below_drew1) | exact HB.out)) hb); clear HO_36; clear HB; have HO_36 := n0_; have HB := n1_; clear n0_ n1_; (try clear hb); (try clear hb2); (try clear hk); (try clear hi)))
                                           go_ret
                                           exact ⟨by first | rfl | (simp [errW_none, errW_some] <;> rfl) | (simp only [← hji5]; first | rfl | (simp [errW_none, errW_some] <;> rfl)) | (simp [*, errW_none, errW_some] <;> rfl), by repeat (first | (with_reducible first | exact HB.out | apply below_alloc | apply pw_below_drewN | apply below_drew1) | exact HB.out)⟩)
                                    · rw [if_neg c46] at H
                                      exact absurd H (by simp)
                                  · rw [if_neg c45] at H
                                    exact absurd H (by simp)
                                · rw [if_neg c44] at H
                                  exact absurd H (by simp)
                          · rw [if_neg c39] at H
                            have c39b0 : (t208 == 0) = false := beq_eq_false_iff_ne.mpr c39
                            have c39b1 : (t208 != 0) = true := bne_iff_ne.mpr c39
                            first
                            | exact absurd ((Option.some.inj H).trans hr) (by decide)
                            | (clear hr
                               obtain rfl := Option.some.inj H
                               go_wp2_with (first | ((with_reducible refine gate_callee (f := 17) rfl ?_); refine goesL_ (some 98) rfl rfl Tryd.func17 (by kernel_rfl) rfl #[.string T_, .int .i64 (rd y195 x38_1)] rfl (by (try simp only [List.map_toArray, List.map_cons, List.map_nil]); first | done | (simp only [hji5]; rfl) | rfl | (simp only [List.length_drop, List.length_take]; rfl)) ?_; (with_reducible refine (wire_String.calls kj22 T_ (rd y195 x38_1) t204 t205 t206 _ A36.out).mono ?_); rintro e w' ⟨rfl, ⟨nd, rfl⟩⟩; refine ⟨_, rfl, ?_⟩) | ((with_reducible refine gate_callee (f := 19) rfl ?_); refine goesL_ (some 104) rfl rfl Tryd.func19 (by kernel_rfl) rfl #[.string t204] rfl (by (try simp only [List.map_toArray, List.map_cons, List.map_nil]); first | done | rfl | (simp only [List.length_drop, List.length_take]; rfl)) ?_; (with_reducible refine (wire_PutString.calls t204 t207 t208 _ A37.out).mono ?_); rintro e w50 ⟨rfl, hb⟩; refine ⟨_, rfl, ?_⟩; have n0_ := Aside0.mk (Kd.R_below (by (with_reducible repeat (first | apply Kd.R_alloc | apply Kd.R_drewN | apply Kd.R_drew)); exact HO_36.out) hb); have n1_ := Aside0.mk (below_step (by repeat (first | (with_reducible first | exact HB.out | apply below_alloc | apply pw_below_drewN | apply below_drew1) | exact HB.out)) hb); clear HO_36; clear HB; have HO_36 := n0_; have HB := n1_; clear n0_ n1_; (try clear hb); (try clear hb2); (try clear hk); (try clear hi)))
                               go_ret
                               exact ⟨by first | rfl | (simp [errW_none, errW_some] <;> rfl) | (simp only [← hji5]; first | rfl | (simp [errW_none, errW_some] <;> rfl)) | (simp [*, errW_none, errW_some] <;> rfl), by repeat (first | (with_reducible first | exact HB.out | apply below_alloc | apply pw_below_drewN | apply below_drew1) | exact HB.out)⟩)
                        · rw [if_neg c38] at H
                          have c38b0 : (t206 == 0) = false := beq_eq_false_iff_ne.mpr c38
                          have c38b1 : (t206 != 0) = true := bne_iff_ne.mpr c38
                          by_cases c51 : t206 = 10
                          · rw [if_pos c51] at H
                            have c51b0 : (t206 == 10) = true := beq_iff_eq.mpr c51
                            have c51b1 : (t206 != 10) = false := bne_eq_false_iff_eq.mpr c51
                            clear c51
                            by_cases c52 : t204.toList = ([] : List UInt8)
                            · rw [if_pos c52] at H
                              have c52b0 : (t204.toList == ([] : List UInt8)) = true := beq_iff_eq.mpr c52
                              have c52b1 : (t204.toList != ([] : List UInt8)) = false := bne_eq_false_iff_eq.mpr c52
                              clear c52
                              by_cases c53 : t205 = 0
                              · rw [if_pos c53] at H
                                have c53b0 : (t205 == 0) = true := beq_iff_eq.mpr c53
                                have c53b1 : (t205 != 0) = false := bne_eq_false_iff_eq.mpr c53
                                clear c53
                                have H' := Aside0.mk H
                                clear H
                                go_wp2_with (first | ((with_reducible refine gate_callee (f := 17) rfl ?_); refine goesL_ (some 98) rfl rfl Tryd.func17 (by kernel_rfl) rfl #[.string T_, .int .i64 (rd y195 x38_1)] rfl (by (try simp only [List.map_toArray, List.map_cons, List.map_nil]); first | done | (simp only [hji5]; rfl) | rfl | (simp only [List.length_drop, List.length_take]; rfl)) ?_; (with_reducible refine (wire_String.calls kj22 T_ (rd y195 x38_1) t204 t205 t206 _ A36.out).mono ?_); rintro e w' ⟨rfl, ⟨nd, rfl⟩⟩; refine ⟨_, rfl, ?_⟩) | ((with_reducible refine gate_callee (f := 19) rfl ?_); refine goesL_ (some 104) rfl rfl Tryd.func19 (by kernel_rfl) rfl #[.string t204] rfl (by (try simp only [List.map_toArray, List.map_cons, List.map_nil]); first | done | rfl | (simp only [List.length_drop, List.length_take]; rfl)) ?_; (with_reducible refine (wire_PutString.calls t204 t207 t208 _ A37.out).mono ?_); rintro e w54 ⟨rfl, hb⟩; refine ⟨_, rfl, ?_⟩; have n0_ := Aside0.mk (Kd.R_below (by (with_reducible repeat (first | apply Kd.R_alloc | apply Kd.R_drewN | apply Kd.R_drew)); exact HO_36.out) hb); have n1_ := Aside0.mk (below_step (by repeat (first | (with_reducible first | exact HB.out | apply below_alloc | apply pw_below_drewN | apply below_drew1) | exact HB.out)) hb); clear HO_36; clear HB; have HO_36 := n0_; have HB := n1_; clear n0_ n1_; (try clear hb); (try clear hb2); (try clear hk); (try clear hi)))
                                go_roundg kj22
                                case measure => have := HK1.out; have := HJ22.out; omega
                                case rel => exact ⟨(wrap64 (x38_1 + 1)), (by first | rfl | (simp; done) | (simp [*]; done)), H', ⟨by have := HK1.out; have := HJ22.out; omega⟩, ⟨by (with_reducible repeat (first | apply Kd.R_alloc | apply Kd.R_drewN | apply Kd.R_drew)); exact HO_36.out⟩, ⟨by repeat (first | (with_reducible first | exact HB.out | apply below_alloc | apply pw_below_drewN | apply below_drew1) | exact HB.out)⟩⟩
                              · rw [if_neg c53] at H
                                have c53b0 : (t205 == 0) = false := beq_eq_false_iff_ne.mpr c53
                                have c53b1 : (t205 != 0) = true := bne_iff_ne.mpr c53
                                first
                                | exact absurd ((Option.some.inj H).trans hr) (by decide)
                                | (clear hr
                                   obtain rfl := Option.some.inj H
                                   go_wp2_with (first | ((with_reducible refine gate_callee (f := 17) rfl ?_); refine goesL_ (some 98) rfl rfl Tryd.func17 (by kernel_rfl) rfl #[.string T_, .int .i64 (rd y195 x38_1)] rfl (by (try simp only [List.map_toArray, List.map_cons, List.map_nil]); first | done | (simp only [hji5]; rfl) | rfl | (simp only [List.length_drop, List.length_take]; rfl)) ?_; (with_reducible refine (wire_String.calls kj22 T_ (rd y195 x38_1) t204 t205 t206 _ A36.out).mono ?_); rintro e w' ⟨rfl, ⟨nd, rfl⟩⟩; refine ⟨_, rfl, ?_⟩) | ((with_reducible refine gate_callee (f := 19) rfl ?_); refine goesL_ (some 104) rfl rfl Tryd.func19 (by kernel_rfl) rfl #[.string t204] rfl (by (try simp only [List.map_toArray, List.map_cons, List.map_nil]); first | done | rfl | (simp only [List.length_drop, List.length_take]; rfl)) ?_; (with_reducible refine (wire_PutString.calls t204 t207 t208 _ A37.out).mono ?_); rintro e w55 ⟨rfl, hb⟩; refine ⟨_, rfl, ?_⟩; have n0_ := Aside0.mk (Kd.R_below (by (with_reducible repeat (first | apply Kd.R_alloc | apply Kd.R_drewN | apply Kd.R_drew)); exact HO_36.out) hb); have n1_ := Aside0.mk (below_step (by repeat (first | (with_reducible first | exact HB.out | apply below_alloc | apply pw_below_drewN | apply below_drew1) | exact HB.out)) hb); clear HO_36; clear HB; have HO_36 := n0_; have HB := n1_; clear n0_ n1_; (try clear hb); (try clear hb2); (try clear hk); (try clear hi)))
                                   go_ret
                                   exact ⟨by first | rfl | (simp [errW_none, errW_some] <;> rfl) | (simp only [← hji5]; first | rfl | (simp [errW_none, errW_some] <;> rfl)) | (simp [*, errW_none, errW_some] <;> rfl), by repeat (first | (with_reducible first | exact HB.out | apply below_alloc | apply pw_below_drewN | apply below_drew1) | exact HB.out)⟩)
                            · rw [if_neg c52] at H
                              have c52b0 : (t204.toList == ([] : List UInt8)) = false := beq_eq_false_iff_ne.mpr c52
                              have c52b1 : (t204.toList != ([] : List UInt8)) = true := bne_iff_ne.mpr c52
                              first
                              | exact absurd ((Option.some.inj H).trans hr) (by decide)
                              | (clear hr
                                 obtain rfl := Option.some.inj H
                                 go_wp2_with (first | ((with_reducible refine gate_callee (f := 17) rfl ?_); refine goesL_ (some 98) rfl rfl Tryd.func17 (by kernel_rfl) rfl #[.string T_, .int .i64 (rd y195 x38_1)] rfl (by (try simp only [List.map_toArray, List.map_cons, List.map_nil]); first | done | (simp only [hji5]; rfl) | rfl | (simp only [List.length_drop, List.length_take]; rfl)) ?_; (with_reducible refine (wire_String.calls kj22 T_ (rd y195 x38_1) t204 t205 t206 _ A36.out).mono ?_); rintro e w' ⟨rfl, ⟨nd, rfl⟩⟩; refine ⟨_, rfl, ?_⟩) | ((with_reducible refine gate_callee (f := 19) rfl ?_); refine goesL_ (some 104) rfl rfl Tryd.func19 (by kernel_rfl) rfl #[.string t204] rfl (by (try simp only [List.map_toArray, List.map_cons, List.map_nil]); first | done | rfl | (simp only [List.length_drop, List.length_take]; rfl)) ?_; (with_reducible refine (wire_PutString.calls t204 t207 t208 _ A37.out).mono ?_); rintro e w56 ⟨rfl, hb⟩; refine ⟨_, rfl, ?_⟩; have n0_ := Aside0.mk (Kd.R_below (by (with_reducible repeat (first | apply Kd.R_alloc | apply Kd.R_drewN | apply Kd.R_drew)); exact HO_36.out) hb); have n1_ := Aside0.mk (below_step (by repeat (first | (with_reducible first | exact HB.out | apply below_alloc | apply pw_below_drewN | apply below_drew1) | exact HB.out)) hb); clear HO_36; clear HB; have HO_36 := n0_; have HB := n1_; clear n0_ n1_; (try clear hb); (try clear hb2); (try clear hk); (try clear hi)))
                                 go_ret
                                 exact ⟨by first | rfl | (simp [errW_none, errW_some] <;> rfl) | (simp only [← hji5]; first | rfl | (simp [errW_none, errW_some] <;> rfl)) | (simp [*, errW_none, errW_some] <;> rfl), by repeat (first | (with_reducible first | exact HB.out | apply below_alloc | apply pw_below_drewN | apply below_drew1) | exact HB.out)⟩)
                          · rw [if_neg c51] at H
                            have c51b0 : (t206 == 10) = false := beq_eq_false_iff_ne.mpr c51
                            have c51b1 : (t206 != 10) = true := bne_iff_ne.mpr c51
                            first
                            | exact absurd ((Option.some.inj H).trans hr) (by decide)
                            | (clear hr
                               obtain rfl := Option.some.inj H
                               go_wp2_with (first | ((with_reducible refine gate_callee (f := 17) rfl ?_); refine goesL_ (some 98) rfl rfl Tryd.func17 (by kernel_rfl) rfl #[.string T_, .int .i64 (rd y195 x38_1)] rfl (by (try simp only [List.map_toArray, List.map_cons, List.map_nil]); first | done | (simp only [hji5]; rfl) | rfl | (simp only [List.length_drop, List.length_take]; rfl)) ?_; (with_reducible refine (wire_String.calls kj22 T_ (rd y195 x38_1) t204 t205 t206 _ A36.out).mono ?_); rintro e w' ⟨rfl, ⟨nd, rfl⟩⟩; refine ⟨_, rfl, ?_⟩) | ((with_reducible refine gate_callee (f := 19) rfl ?_); refine goesL_ (some 104) rfl rfl Tryd.func19 (by kernel_rfl) rfl #[.string t204] rfl (by (try simp only [List.map_toArray, List.map_cons, List.map_nil]); first | done | rfl | (simp only [List.length_drop, List.length_take]; rfl)) ?_; (with_reducible refine (wire_PutString.calls t204 t207 t208 _ A37.out).mono ?_); rintro e w57 ⟨rfl, hb⟩; refine ⟨_, rfl, ?_⟩; have n0_ := Aside0.mk (Kd.R_below (by (with_reducible repeat (first | apply Kd.R_alloc | apply Kd.R_drewN | apply Kd.R_drew)); exact HO_36.out) hb); have n1_ := Aside0.mk (below_step (by repeat (first | (with_reducible first | exact HB.out | apply below_alloc | apply pw_below_drewN | apply below_drew1) | exact HB.out)) hb); clear HO_36; clear HB; have HO_36 := n0_; have HB := n1_; clear n0_ n1_; (try clear hb); (try clear hb2); (try clear hk); (try clear hi)))
                               go_ret
                               exact ⟨by first | rfl | (simp [errW_none, errW_some] <;> rfl) | (simp only [← hji5]; first | rfl | (simp [errW_none, errW_some] <;> rfl)) | (simp [*, errW_none, errW_some] <;> rfl), by repeat (first | (with_reducible first | exact HB.out | apply below_alloc | apply pw_below_drewN | apply below_drew1) | exact HB.out)⟩)
                · rw [if_neg c20] at H
                  exact absurd H (by simp)
              · rw [if_neg c19] at H
                exact absurd H (by simp)
            · rw [if_neg c18] at H
              have c18b0 : decide (x38_1 < (y195.length : Int)) = false := decide_eq_false c18
              clear c18
              first
              | exact absurd ((Option.some.inj H).trans hr) (by decide)
              | (clear hr
                 obtain rfl := Option.some.inj H
                 go_wp2
                 go_ret
                 exact ⟨by first | rfl | (simp [errW_none, errW_some] <;> rfl) | (simp only [← hji5]; first | rfl | (simp [errW_none, errW_some] <;> rfl)) | (simp [*, errW_none, errW_some] <;> rfl), by repeat (first | (with_reducible first | exact HB.out | apply below_alloc | apply pw_below_drewN | apply below_drew1) | exact HB.out)⟩)
      · rw [if_neg c8] at H
        exact absurd H (by simp)
    · rw [if_neg c7] at H
      exact absurd H (by simp)
  · rw [if_neg c6] at H
    exact absurd H (by simp)

/-- THE ONE PURE STATEMENT of workpiecelaw01_WireUnique: yours. -/
def workpiecelaw01_WireUnique.Pure : Prop := ∀ (a0 : ByteArray) (a1 : Int) (a2 : Int), a0.size ≤ 140737488351232 → (Lit.int .i64 a1).wf = true → (Lit.int .u8 a2).wf = true → ∃ k, workpiecelaw01_WireUnique.f k a0 a1 a2 = some true
theorem workpiecelaw01_WireUnique.walk (P : workpiecelaw01_WireUnique.Pure) (a0 : ByteArray) (a1 : Int) (a2 : Int) (w : World) (w0 : a0.size ≤ 140737488351232) (w1 : (Lit.int .i64 a1).wf = true) (w2 : (Lit.int .u8 a2).wf = true) (hN : Aside0 (Nib w)) :
    Calls Tryd.prog 5 #[.string a0, .int .i64 a1, .int .u8 a2] w fun e w' => e = .returned (.bool true) ∧ Below w.heap.size w w' := by
  obtain ⟨k, h⟩ := P a0 a1 a2 w0 w1 w2
  refine (workpiecelaw01_WireUnique.calls k a0 a1 a2 true w h rfl hN).mono ?_
  rintro e w' ⟨rfl, hd⟩
  exact ⟨rfl, hd⟩

end Go.Proofs.YtodaajokphoioaaDoor.L

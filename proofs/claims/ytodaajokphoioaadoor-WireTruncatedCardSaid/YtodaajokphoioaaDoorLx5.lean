-- by a program of this seat (wip/tools/doctor.py, lawtext.py)
import Derived.Test.YtodaajokphoioaaDoorLx0
import Derived.Test.YtodaajokphoioaaDoorLx1
import Derived.Test.YtodaajokphoioaaDoorSane
namespace Go.Proofs.YtodaajokphoioaaDoor.L
open Go.RowKit Go.Proofs.YtodaajokphoioaaDoorW.PrintWords Go.Proofs.YtodaajokphoioaaDoorW.PrintLast Go.Proofs.YtodaajokphoioaaDoorW.PrintMore
attribute [local go_sem] max2_int min2_int max_two min_two max_three min_three max_four min_four   -- for this text's walks alone
set_option linter.unusedVariables false
set_option linter.unusedSimpArgs false

/-! ### workpiecelaw01_WireTruncated: function 7 -/
def workpiecelaw01_WireTruncated.j0 : Nat → Int → Int → Int → Bool → ByteArray → ByteArray → ByteArray → Bool → Option (Bool)
  | 0, _, _, _, _, _, _, _, _ => none
  | k + 1, x0, x1, x3, x9, x10, x12, x14, x64 => if x64 = true then (some false) else ((workpiecelaw01_pick.f x3 (x10.size : Int)).bind fun t218 => (if 0 ≤ t218 then (if t218 ≤ (x10.size : Int) then ((wire_Int.f k (x10.extract 0 (t218 : Int).toNat) 0).bind fun bt219 => ((workpiecelaw01_pick.f x3 (x14.size : Int)).bind fun t222 => (if 0 ≤ t222 then (if t222 ≤ (x14.size : Int) then ((wire_String.f k (x14.extract 0 (t222 : Int).toNat) 0).bind fun bt223 => (if (x10.size : Int) ≤ (x12.size : Int) then (if 0 ≤ (x10.size : Int) then (if x9 = true then (if bt219.2.2 = 10 then (if bt223.2.2 = 10 then ((workpiecelaw01_NumberFrom.f x0).bind fun t226 => ((workpiecelaw01_NumberFrom.f x1).bind fun t227 => (some (((x12.extract 0 ((x10.size : Int) : Int).toNat).toList == x10.toList) == (t226 == t227))))) else (some false)) else (some false)) else (some false)) else (none)) else (if x9 = true then (if bt219.2.2 = 10 then (if bt223.2.2 = 10 then ((workpiecelaw01_NumberFrom.f x0).bind fun t228 => ((workpiecelaw01_NumberFrom.f x1).bind fun t229 => (some (false == (t228 == t229))))) else (some false)) else (some false)) else (some false)))) else (none)) else (none)))) else (none)) else (none)))
def workpiecelaw01_WireTruncated.f (k : Nat) (a0 : Int) (a1 : Int) (a2 : ByteArray) (a3 : Int) : Option (Bool) := (workpiecelaw01_sane.f k).bind fun t209 => ((workpiecelaw01_NumberFrom.f a0).bind fun t210 => ((wire_PutInt.f t210).bind fun bt211 => ((workpiecelaw01_NumberFrom.f a1).bind fun t213 => ((wire_PutInt.f t213).bind fun bt214 => (if 0 ≤ (mn (a2.size : Int) 200) then (if (mn (a2.size : Int) 200) ≤ (a2.size : Int) then ((wire_PutString.f (a2.extract 0 ((mn (a2.size : Int) 200) : Int).toNat)).bind fun bt216 => (if bt211.2 = 0 then (if bt214.2 = 0 then (if bt216.2 = 0 then (if (bt211.1.size : Int) = 0 then (workpiecelaw01_WireTruncated.j0 k a0 a1 a3 t209 bt211.1 bt214.1 bt216.1 true) else (workpiecelaw01_WireTruncated.j0 k a0 a1 a3 t209 bt211.1 bt214.1 bt216.1 ((bt216.1.size : Int) == 0))) else (workpiecelaw01_WireTruncated.j0 k a0 a1 a3 t209 bt211.1 bt214.1 bt216.1 true)) else (workpiecelaw01_WireTruncated.j0 k a0 a1 a3 t209 bt211.1 bt214.1 bt216.1 true)) else (workpiecelaw01_WireTruncated.j0 k a0 a1 a3 t209 bt211.1 bt214.1 bt216.1 true))) else (none)) else (none))))))
theorem workpiecelaw01_WireTruncated.mono_l : ∀ k, (∀ y0 y1 y2 y3 y4 y5 y6 y7, LeO (workpiecelaw01_WireTruncated.j0 k y0 y1 y2 y3 y4 y5 y6 y7) (workpiecelaw01_WireTruncated.j0 (k + 1) y0 y1 y2 y3 y4 y5 y6 y7))
  | 0 => fun _ _ _ _ _ _ _ _ r h => by simp [workpiecelaw01_WireTruncated.j0] at h
  | k + 1 => by
    have ih0 := workpiecelaw01_WireTruncated.mono_l k
    · intro y0 y1 y2 y3 y4 y5 y6 y7
      unfold workpiecelaw01_WireTruncated.j0
      repeat' first
      | (with_reducible exact ih0 _ _ _ _ _ _ _ _)
      | (with_reducible exact wire_Int.mono _ _ _)
      | (with_reducible exact wire_String.mono _ _ _)
      | (with_reducible exact workpiecelaw01_sane.mono _)
      | (with_reducible exact LeO.refl _)
      | (with_reducible exact LeO.none _)
      | (with_reducible refine LeO.ite ?_ ?_)
      | (with_reducible refine LeO.bind ?_ (fun _ => ?_))
      | exact ih0 _ _ _ _ _ _ _ _
      | exact wire_Int.mono _ _ _
      | exact wire_String.mono _ _ _
      | exact workpiecelaw01_sane.mono _
      | exact LeO.none _
      | refine LeO.ite ?_ ?_
      | refine LeO.bind ?_ (fun _ => ?_)
theorem workpiecelaw01_WireTruncated.mono : ∀ a0 a1 a2 a3 k, LeO (workpiecelaw01_WireTruncated.f k a0 a1 a2 a3) (workpiecelaw01_WireTruncated.f (k + 1) a0 a1 a2 a3) := by
  intro a0 a1 a2 a3 k
  have ih0 := workpiecelaw01_WireTruncated.mono_l k
  unfold workpiecelaw01_WireTruncated.f
  repeat' first
      | (with_reducible exact ih0 _ _ _ _ _ _ _ _)
      | (with_reducible exact wire_Int.mono _ _ _)
      | (with_reducible exact wire_String.mono _ _ _)
      | (with_reducible exact workpiecelaw01_sane.mono _)
      | (with_reducible exact LeO.refl _)
      | (with_reducible exact LeO.none _)
      | (with_reducible refine LeO.ite ?_ ?_)
      | (with_reducible refine LeO.bind ?_ (fun _ => ?_))
      | exact ih0 _ _ _ _ _ _ _ _
      | exact wire_Int.mono _ _ _
      | exact wire_String.mono _ _ _
      | exact workpiecelaw01_sane.mono _
      | exact LeO.none _
      | refine LeO.ite ?_ ?_
      | refine LeO.bind ?_ (fun _ => ?_)
set_option maxHeartbeats 8000000 in
set_option maxRecDepth 100000 in
theorem workpiecelaw01_WireTruncated.calls (k : Nat) (a0 : Int) (a1 : Int) (a2 : ByteArray) (a3 : Int) (r : Bool) (w : World) (h : workpiecelaw01_WireTruncated.f k a0 a1 a2 a3 = some r) (hr : r = true) (hN : Aside0 (Nib w)) :
    Calls Tryd.prog 7 #[.int .i64 a0, .int .i64 a1, .string a2, .int .i64 a3] w fun e w' => e = .returned (.bool r) ∧ Below w.heap.size w w' := by
  have HB := Aside0.mk (Below.refl w.heap.size w)
  have H : ((workpiecelaw01_sane.f k).bind fun t209 => ((workpiecelaw01_NumberFrom.f a0).bind fun t210 => ((wire_PutInt.f t210).bind fun bt211 => ((workpiecelaw01_NumberFrom.f a1).bind fun t213 => ((wire_PutInt.f t213).bind fun bt214 => (if 0 ≤ (mn (a2.size : Int) 200) then (if (mn (a2.size : Int) 200) ≤ (a2.size : Int) then ((wire_PutString.f (a2.extract 0 ((mn (a2.size : Int) 200) : Int).toNat)).bind fun bt216 => (if bt211.2 = 0 then (if bt214.2 = 0 then (if bt216.2 = 0 then (if (bt211.1.size : Int) = 0 then (workpiecelaw01_WireTruncated.j0 k a0 a1 a3 t209 bt211.1 bt214.1 bt216.1 true) else (workpiecelaw01_WireTruncated.j0 k a0 a1 a3 t209 bt211.1 bt214.1 bt216.1 ((bt216.1.size : Int) == 0))) else (workpiecelaw01_WireTruncated.j0 k a0 a1 a3 t209 bt211.1 bt214.1 bt216.1 true)) else (workpiecelaw01_WireTruncated.j0 k a0 a1 a3 t209 bt211.1 bt214.1 bt216.1 true)) else (workpiecelaw01_WireTruncated.j0 k a0 a1 a3 t209 bt211.1 bt214.1 bt216.1 true))) else (none)) else (none))))))) = some r := h
  clear h
  replace H := Option.bind_eq_some_iff.mp H
  obtain ⟨t209, A50, H⟩ := H
  replace H : ((workpiecelaw01_NumberFrom.f a0).bind fun t210 => ((wire_PutInt.f t210).bind fun bt211 => ((workpiecelaw01_NumberFrom.f a1).bind fun t213 => ((wire_PutInt.f t213).bind fun bt214 => (if 0 ≤ (mn (a2.size : Int) 200) then (if (mn (a2.size : Int) 200) ≤ (a2.size : Int) then ((wire_PutString.f (a2.extract 0 ((mn (a2.size : Int) 200) : Int).toNat)).bind fun bt216 => (if bt211.2 = 0 then (if bt214.2 = 0 then (if bt216.2 = 0 then (if (bt211.1.size : Int) = 0 then (workpiecelaw01_WireTruncated.j0 k a0 a1 a3 t209 bt211.1 bt214.1 bt216.1 true) else (workpiecelaw01_WireTruncated.j0 k a0 a1 a3 t209 bt211.1 bt214.1 bt216.1 ((bt216.1.size : Int) == 0))) else (workpiecelaw01_WireTruncated.j0 k a0 a1 a3 t209 bt211.1 bt214.1 bt216.1 true)) else (workpiecelaw01_WireTruncated.j0 k a0 a1 a3 t209 bt211.1 bt214.1 bt216.1 true)) else (workpiecelaw01_WireTruncated.j0 k a0 a1 a3 t209 bt211.1 bt214.1 bt216.1 true))) else (none)) else (none)))))) = some r := H
  have A5 := Aside0.mk A50
  clear A50
  replace H := Option.bind_eq_some_iff.mp H
  obtain ⟨t210, A60, H⟩ := H
  replace H : ((wire_PutInt.f t210).bind fun bt211 => ((workpiecelaw01_NumberFrom.f a1).bind fun t213 => ((wire_PutInt.f t213).bind fun bt214 => (if 0 ≤ (mn (a2.size : Int) 200) then (if (mn (a2.size : Int) 200) ≤ (a2.size : Int) then ((wire_PutString.f (a2.extract 0 ((mn (a2.size : Int) 200) : Int).toNat)).bind fun bt216 => (if bt211.2 = 0 then (if bt214.2 = 0 then (if bt216.2 = 0 then (if (bt211.1.size : Int) = 0 then (workpiecelaw01_WireTruncated.j0 k a0 a1 a3 t209 bt211.1 bt214.1 bt216.1 true) else (workpiecelaw01_WireTruncated.j0 k a0 a1 a3 t209 bt211.1 bt214.1 bt216.1 ((bt216.1.size : Int) == 0))) else (workpiecelaw01_WireTruncated.j0 k a0 a1 a3 t209 bt211.1 bt214.1 bt216.1 true)) else (workpiecelaw01_WireTruncated.j0 k a0 a1 a3 t209 bt211.1 bt214.1 bt216.1 true)) else (workpiecelaw01_WireTruncated.j0 k a0 a1 a3 t209 bt211.1 bt214.1 bt216.1 true))) else (none)) else (none))))) = some r := H
  have A6 := Aside0.mk A60
  clear A60
  replace H := Option.bind_eq_some_iff.mp H
  obtain ⟨⟨t211, t212⟩, A70, H⟩ := H
  replace H : ((workpiecelaw01_NumberFrom.f a1).bind fun t213 => ((wire_PutInt.f t213).bind fun bt214 => (if 0 ≤ (mn (a2.size : Int) 200) then (if (mn (a2.size : Int) 200) ≤ (a2.size : Int) then ((wire_PutString.f (a2.extract 0 ((mn (a2.size : Int) 200) : Int).toNat)).bind fun bt216 => (if t212 = 0 then (if bt214.2 = 0 then (if bt216.2 = 0 then (if (t211.size : Int) = 0 then (workpiecelaw01_WireTruncated.j0 k a0 a1 a3 t209 t211 bt214.1 bt216.1 true) else (workpiecelaw01_WireTruncated.j0 k a0 a1 a3 t209 t211 bt214.1 bt216.1 ((bt216.1.size : Int) == 0))) else (workpiecelaw01_WireTruncated.j0 k a0 a1 a3 t209 t211 bt214.1 bt216.1 true)) else (workpiecelaw01_WireTruncated.j0 k a0 a1 a3 t209 t211 bt214.1 bt216.1 true)) else (workpiecelaw01_WireTruncated.j0 k a0 a1 a3 t209 t211 bt214.1 bt216.1 true))) else (none)) else (none)))) = some r := H
  have A7 := Aside0.mk A70
  clear A70
  replace H := Option.bind_eq_some_iff.mp H
  obtain ⟨t213, A80, H⟩ := H
  replace H : ((wire_PutInt.f t213).bind fun bt214 => (if 0 ≤ (mn (a2.size : Int) 200) then (if (mn (a2.size : Int) 200) ≤ (a2.size : Int) then ((wire_PutString.f (a2.extract 0 ((mn (a2.size : Int) 200) : Int).toNat)).bind fun bt216 => (if t212 = 0 then (if bt214.2 = 0 then (if bt216.2 = 0 then (if (t211.size : Int) = 0 then (workpiecelaw01_WireTruncated.j0 k a0 a1 a3 t209 t211 bt214.1 bt216.1 true) else (workpiecelaw01_WireTruncated.j0 k a0 a1 a3 t209 t211 bt214.1 bt216.1 ((bt216.1.size : Int) == 0))) else (workpiecelaw01_WireTruncated.j0 k a0 a1 a3 t209 t211 bt214.1 bt216.1 true)) else (workpiecelaw01_WireTruncated.j0 k a0 a1 a3 t209 t211 bt214.1 bt216.1 true)) else (workpiecelaw01_WireTruncated.j0 k a0 a1 a3 t209 t211 bt214.1 bt216.1 true))) else (none)) else (none))) = some r := H
  have A8 := Aside0.mk A80
  clear A80
  replace H := Option.bind_eq_some_iff.mp H
  obtain ⟨⟨t214, t215⟩, A90, H⟩ := H
  replace H : (if 0 ≤ (mn (a2.size : Int) 200) then (if (mn (a2.size : Int) 200) ≤ (a2.size : Int) then ((wire_PutString.f (a2.extract 0 ((mn (a2.size : Int) 200) : Int).toNat)).bind fun bt216 => (if t212 = 0 then (if t215 = 0 then (if bt216.2 = 0 then (if (t211.size : Int) = 0 then (workpiecelaw01_WireTruncated.j0 k a0 a1 a3 t209 t211 t214 bt216.1 true) else (workpiecelaw01_WireTruncated.j0 k a0 a1 a3 t209 t211 t214 bt216.1 ((bt216.1.size : Int) == 0))) else (workpiecelaw01_WireTruncated.j0 k a0 a1 a3 t209 t211 t214 bt216.1 true)) else (workpiecelaw01_WireTruncated.j0 k a0 a1 a3 t209 t211 t214 bt216.1 true)) else (workpiecelaw01_WireTruncated.j0 k a0 a1 a3 t209 t211 t214 bt216.1 true))) else (none)) else (none)) = some r := H
  have A9 := Aside0.mk A90
  clear A90
  obtain ⟨ji10, hji10⟩ : ∃ j_ : Int, (mn (a2.size : Int) 200) = j_ := ⟨_, rfl⟩
  replace H : (if 0 ≤ (ji10) then (if (ji10) ≤ (a2.size : Int) then ((wire_PutString.f (a2.extract 0 ((ji10) : Int).toNat)).bind fun bt216 => (if t212 = 0 then (if t215 = 0 then (if bt216.2 = 0 then (if (t211.size : Int) = 0 then (workpiecelaw01_WireTruncated.j0 k a0 a1 a3 t209 t211 t214 bt216.1 true) else (workpiecelaw01_WireTruncated.j0 k a0 a1 a3 t209 t211 t214 bt216.1 ((bt216.1.size : Int) == 0))) else (workpiecelaw01_WireTruncated.j0 k a0 a1 a3 t209 t211 t214 bt216.1 true)) else (workpiecelaw01_WireTruncated.j0 k a0 a1 a3 t209 t211 t214 bt216.1 true)) else (workpiecelaw01_WireTruncated.j0 k a0 a1 a3 t209 t211 t214 bt216.1 true))) else (none)) else (none)) = some r := by first | (rw [hji10] at H; exact H) | (simp only [hji10] at H ⊢; exact H)
  (try rw [hji10] at A5)
  (try rw [hji10] at A6)
  (try rw [hji10] at A7)
  (try rw [hji10] at A8)
  (try rw [hji10] at A9)
  (try (have hji10h : ji10 ≤ 200 := by (rw [← hji10]; unfold mn; (repeat' split) <;> omega)))
  (try (have hji10g : ji10 ≤ 64 := by omega))
  (try (have hji10l : 0 ≤ ji10 := by (rw [← hji10]; unfold mn; (repeat' split) <;> omega)))
  (try (have hji10m : 0 ≤ ji10 := by omega))
  have hji10_ : (if 200 < (a2.size : Int) then 200 else (a2.size : Int)) = ji10 := hji10
  by_cases c11 : 0 ≤ (ji10)
  · rw [if_pos c11] at H
    have c11b0 := eq_true c11
    have c11b1 : decide (0 ≤ (ji10)) = true := decide_eq_true c11
    clear c11
    by_cases c12 : (ji10) ≤ (a2.size : Int)
    · rw [if_pos c12] at H
      have c12b0 := eq_true c12
      have c12b1 : decide ((ji10) ≤ (a2.size : Int)) = true := decide_eq_true c12
      clear c12
      replace H := Option.bind_eq_some_iff.mp H
      obtain ⟨⟨t216, t217⟩, A130, H⟩ := H
      replace H : (if t212 = 0 then (if t215 = 0 then (if t217 = 0 then (if (t211.size : Int) = 0 then (workpiecelaw01_WireTruncated.j0 k a0 a1 a3 t209 t211 t214 t216 true) else (workpiecelaw01_WireTruncated.j0 k a0 a1 a3 t209 t211 t214 t216 ((t216.size : Int) == 0))) else (workpiecelaw01_WireTruncated.j0 k a0 a1 a3 t209 t211 t214 t216 true)) else (workpiecelaw01_WireTruncated.j0 k a0 a1 a3 t209 t211 t214 t216 true)) else (workpiecelaw01_WireTruncated.j0 k a0 a1 a3 t209 t211 t214 t216 true)) = some r := H
      have A13 := Aside0.mk A130
      clear A130
      have HC14 := Aside0.mk H
      clear H
      go_enter Tryd.func7, Tryd.ntmps7
      go_upto_region 5 with (first | ((with_reducible refine gate_callee (f := 10) rfl ?_); refine goesL_ (some 23) rfl rfl Tryd.func10 (by kernel_rfl) rfl #[] rfl (by (try simp only [List.map_toArray, List.map_cons, List.map_nil]); first | done | rfl | (simp only [List.length_drop, List.length_take]; rfl)) ?_; (with_reducible refine (workpiecelaw01_sane.calls k  t209 _ A5.out (sane_is A5.out) ?hNib).mono ?_); (case hNib => exact ⟨nib_below hN.out (by repeat (first | (with_reducible first | exact HB.out | apply below_alloc | apply pw_below_drewN | apply below_drew1) | exact HB.out))⟩); rintro e w15 ⟨rfl, hb⟩; refine ⟨_, rfl, ?_⟩; have n0_ := Aside0.mk (below_step (by repeat (first | (with_reducible first | exact HB.out | apply below_alloc | apply pw_below_drewN | apply below_drew1) | exact HB.out)) hb); clear HB; have HB := n0_; clear n0_; (try clear hb); (try clear hb2); (try clear hk); (try clear hi)) | ((with_reducible refine gate_callee (f := 11) rfl ?_); refine goesL_ (some 26) rfl rfl Tryd.func11 (by kernel_rfl) rfl #[.int .i64 a0] rfl (by (try simp only [List.map_toArray, List.map_cons, List.map_nil]); first | done | rfl | (simp only [List.length_drop, List.length_take]; rfl)) ?_; (with_reducible refine (workpiecelaw01_NumberFrom.calls a0 t210 _ A6.out).mono ?_); rintro e w16 ⟨rfl, hb⟩; refine ⟨_, rfl, ?_⟩; have n0_ := Aside0.mk (below_step (by repeat (first | (with_reducible first | exact HB.out | apply below_alloc | apply pw_below_drewN | apply below_drew1) | exact HB.out)) hb); clear HB; have HB := n0_; clear n0_; (try clear hb); (try clear hb2); (try clear hk); (try clear hi)) | ((with_reducible refine gate_callee (f := 12) rfl ?_); refine goesL_ (some 27) rfl rfl Tryd.func12 (by kernel_rfl) rfl #[.int .i64 t210] rfl (by (try simp only [List.map_toArray, List.map_cons, List.map_nil]); first | done | rfl | (simp only [List.length_drop, List.length_take]; rfl)) ?_; (with_reducible refine (wire_PutInt.calls t210 t211 t212 _ A7.out).mono ?_); rintro e w17 ⟨rfl, hb⟩; refine ⟨_, rfl, ?_⟩; have n0_ := Aside0.mk (below_step (by repeat (first | (with_reducible first | exact HB.out | apply below_alloc | apply pw_below_drewN | apply below_drew1) | exact HB.out)) hb); clear HB; have HB := n0_; clear n0_; (try clear hb); (try clear hb2); (try clear hk); (try clear hi)) | ((with_reducible refine gate_callee (f := 11) rfl ?_); refine goesL_ (some 32) rfl rfl Tryd.func11 (by kernel_rfl) rfl #[.int .i64 a1] rfl (by (try simp only [List.map_toArray, List.map_cons, List.map_nil]); first | done | rfl | (simp only [List.length_drop, List.length_take]; rfl)) ?_; (with_reducible refine (workpiecelaw01_NumberFrom.calls a1 t213 _ A8.out).mono ?_); rintro e w18 ⟨rfl, hb⟩; refine ⟨_, rfl, ?_⟩; have n0_ := Aside0.mk (below_step (by repeat (first | (with_reducible first | exact HB.out | apply below_alloc | apply pw_below_drewN | apply below_drew1) | exact HB.out)) hb); clear HB; have HB := n0_; clear n0_; (try clear hb); (try clear hb2); (try clear hk); (try clear hi)) | ((with_reducible refine gate_callee (f := 12) rfl ?_); refine goesL_ (some 33) rfl rfl Tryd.func12 (by kernel_rfl) rfl #[.int .i64 t213] rfl (by (try simp only [List.map_toArray, List.map_cons, List.map_nil]); first | done | rfl | (simp only [List.length_drop, List.length_take]; rfl)) ?_; (with_reducible refine (wire_PutInt.calls t213 t214 t215 _ A9.out).mono ?_); rintro e w19 ⟨rfl, hb⟩; refine ⟨_, rfl, ?_⟩; have n0_ := Aside0.mk (below_step (by repeat (first | (with_reducible first | exact HB.out | apply below_alloc | apply pw_below_drewN | apply below_drew1) | exact HB.out)) hb); clear HB; have HB := n0_; clear n0_; (try clear hb); (try clear hb2); (try clear hk); (try clear hi)) | ((with_reducible refine gate_callee (f := 19) rfl ?_); refine goesL_ (some 42) rfl rfl Tryd.func19 (by kernel_rfl) rfl #[.string (a2.extract 0 ((ji10) : Int).toNat)] rfl (by (try simp only [List.map_toArray, List.map_cons, List.map_nil]); first | done | (simp only [hji10]; rfl) | rfl | (simp only [List.length_drop, List.length_take]; rfl)) ?_; (with_reducible refine (wire_PutString.calls (a2.extract 0 ((ji10) : Int).toNat) t216 t217 _ A13.out).mono ?_); rintro e w20 ⟨rfl, hb⟩; refine ⟨_, rfl, ?_⟩; have n0_ := Aside0.mk (below_step (by repeat (first | (with_reducible first | exact HB.out | apply below_alloc | apply pw_below_drewN | apply below_drew1) | exact HB.out)) hb); clear HB; have HB := n0_; clear n0_; (try clear hb); (try clear hb2); (try clear hk); (try clear hi)))
      (try simp only [Act.put, List.setIfInBounds_toArray, List.set_cons_zero, List.set_cons_succ])
      go_cut [64] (fun v64 wc => ∃ (kq : Nat) (x64_13 : Bool), v64 = .bool x64_13 ∧ Aside0 (workpiecelaw01_WireTruncated.j0 kq a0 a1 a3 t209 t211 t214 t216 x64_13 = some r) ∧ Aside0 (kq ≤ k) ∧ Aside0 (Below w.heap.size w wc))
      case first =>
        have H := HC14.out
        clear HC14
        by_cases c21 : t212 = 0
        · rw [if_pos c21] at H
          have c21b0 : (t212 == 0) = true := beq_iff_eq.mpr c21
          have c21b1 : (t212 != 0) = false := bne_eq_false_iff_eq.mpr c21
          clear c21
          (first | rw [c21b0] | (simp only [i64_w, i32_w]; rw [c21b0]) | skip)
          by_cases c22 : t215 = 0
          · rw [if_pos c22] at H
            have c22b0 : (t215 == 0) = true := beq_iff_eq.mpr c22
            have c22b1 : (t215 != 0) = false := bne_eq_false_iff_eq.mpr c22
            clear c22
            by_cases c23 : t217 = 0
            · rw [if_pos c23] at H
              have c23b0 : (t217 == 0) = true := beq_iff_eq.mpr c23
              have c23b1 : (t217 != 0) = false := bne_eq_false_iff_eq.mpr c23
              clear c23
              by_cases c24 : (t211.size : Int) = 0
              · rw [if_pos c24] at H
                have c24b0 : ((t211.size : Int) == 0) = true := beq_iff_eq.mpr c24
                have c24b1 : ((t211.size : Int) != 0) = false := bne_eq_false_iff_eq.mpr c24
                clear c24
                have H' := Aside0.mk H
                clear H
                go_wp2
                go_meet
                case rel => exact ⟨_, (true), (by first | rfl | (simp; done) | (simp [*]; done)), H', ⟨by first | omega | exact Nat.le_refl _⟩, ⟨by repeat (first | (with_reducible first | exact HB.out | apply below_alloc | apply pw_below_drewN | apply below_drew1) | exact HB.out)⟩⟩
              · rw [if_neg c24] at H
                have c24b0 : ((t211.size : Int) == 0) = false := beq_eq_false_iff_ne.mpr c24
                have c24b1 : ((t211.size : Int) != 0) = true := bne_iff_ne.mpr c24
                have H' := Aside0.mk H
                clear H
                go_wp2
                go_meet
                case rel => exact ⟨_, (((t216.size : Int) == 0)), (by first | rfl | (simp; done) | (simp [*]; done)), H', ⟨by first | omega | exact Nat.le_refl _⟩, ⟨by repeat (first | (with_reducible first | exact HB.out | apply below_alloc | apply pw_below_drewN | apply below_drew1) | exact HB.out)⟩⟩
            · rw [if_neg c23] at H
              have c23b0 : (t217 == 0) = false := beq_eq_false_iff_ne.mpr c23
              have c23b1 : (t217 != 0) = true := bne_iff_ne.mpr c23
              have H' := Aside0.mk H
              clear H
              go_wp2
              go_meet
              case rel => exact ⟨_, (true), (by first | rfl | (simp; done) | (simp [*]; done)), H', ⟨by first | omega | exact Nat.le_refl _⟩, ⟨by repeat (first | (with_reducible first | exact HB.out | apply below_alloc | apply pw_below_drewN | apply below_drew1) | exact HB.out)⟩⟩
          · rw [if_neg c22] at H
            have c22b0 : (t215 == 0) = false := beq_eq_false_iff_ne.mpr c22
            have c22b1 : (t215 != 0) = true := bne_iff_ne.mpr c22
            have H' := Aside0.mk H
            clear H
            go_wp2
            go_meet
            case rel => exact ⟨_, (true), (by first | rfl | (simp; done) | (simp [*]; done)), H', ⟨by first | omega | exact Nat.le_refl _⟩, ⟨by repeat (first | (with_reducible first | exact HB.out | apply below_alloc | apply pw_below_drewN | apply below_drew1) | exact HB.out)⟩⟩
        · rw [if_neg c21] at H
          have c21b0 : (t212 == 0) = false := beq_eq_false_iff_ne.mpr c21
          have c21b1 : (t212 != 0) = true := bne_iff_ne.mpr c21
          (first | rw [c21b0] | (simp only [i64_w, i32_w]; rw [c21b0]) | skip)
          have H' := Aside0.mk H
          clear H
          go_wp2
          go_meet
          case rel => exact ⟨_, (true), (by first | rfl | (simp; done) | (simp [*]; done)), H', ⟨by first | omega | exact Nat.le_refl _⟩, ⟨by repeat (first | (with_reducible first | exact HB.out | apply below_alloc | apply pw_below_drewN | apply below_drew1) | exact HB.out)⟩⟩
      case rest =>
        clear HC14
        try clear c1
        try clear c2
        try clear p2
        try clear c7
        try clear c10
        try clear c11
        try clear c11b0
        try clear c11b1
        try clear c12
        try clear c12b0
        try clear c12b1
        try clear c19
        try clear c21
        try clear c21b0
        try clear c21b1
        try clear c22
        try clear c22b0
        try clear c22b1
        try clear c23
        try clear c23b0
        try clear c23b1
        try clear c24
        try clear c24b0
        try clear c24b1
        obtain ⟨kq, x64_13, rfl, HA, HJ13, HB⟩ := hcut
        cases kq with
        | zero => exact absurd HA.out (by simp [workpiecelaw01_WireTruncated.j0])
        | succ kj13 =>
          have H := HA.out
          clear HA
          simp only [workpiecelaw01_WireTruncated.j0] at H
          by_cases c25 : x64_13 = true
          · subst c25
            have H1 : (some false) = some r := by rw [if_pos rfl] at H; exact H
            clear H
            have H := H1
            clear H1
            first
            | exact absurd ((Option.some.inj H).trans hr) (by decide)
            | (clear hr
               obtain rfl := Option.some.inj H
               go_wp2
               go_ret
               exact ⟨by first | rfl | (simp [errW_none, errW_some] <;> rfl) | (simp only [← hji10]; first | rfl | (simp [errW_none, errW_some] <;> rfl)) | (simp [*, errW_none, errW_some] <;> rfl), by repeat (first | (with_reducible first | exact HB.out | apply below_alloc | apply pw_below_drewN | apply below_drew1) | exact HB.out)⟩)
          · replace c25 := Bool.eq_false_iff.mpr c25
            subst c25
            have H1 : ((workpiecelaw01_pick.f a3 (t211.size : Int)).bind fun t218 => (if 0 ≤ t218 then (if t218 ≤ (t211.size : Int) then ((wire_Int.f kj13 (t211.extract 0 (t218 : Int).toNat) 0).bind fun bt219 => ((workpiecelaw01_pick.f a3 (t216.size : Int)).bind fun t222 => (if 0 ≤ t222 then (if t222 ≤ (t216.size : Int) then ((wire_String.f kj13 (t216.extract 0 (t222 : Int).toNat) 0).bind fun bt223 => (if (t211.size : Int) ≤ (t214.size : Int) then (if 0 ≤ (t211.size : Int) then (if t209 = true then (if bt219.2.2 = 10 then (if bt223.2.2 = 10 then ((workpiecelaw01_NumberFrom.f a0).bind fun t226 => ((workpiecelaw01_NumberFrom.f a1).bind fun t227 => (some (((t214.extract 0 ((t211.size : Int) : Int).toNat).toList == t211.toList) == (t226 == t227))))) else (some false)) else (some false)) else (some false)) else (none)) else (if t209 = true then (if bt219.2.2 = 10 then (if bt223.2.2 = 10 then ((workpiecelaw01_NumberFrom.f a0).bind fun t228 => ((workpiecelaw01_NumberFrom.f a1).bind fun t229 => (some (false == (t228 == t229))))) else (some false)) else (some false)) else (some false)))) else (none)) else (none)))) else (none)) else (none))) = some r := by rw [if_neg (show ¬ (false = true) by decide)] at H; exact H
            clear H
            have H := H1
            clear H1
            replace H := Option.bind_eq_some_iff.mp H
            obtain ⟨t218, A260, H⟩ := H
            replace H : (if 0 ≤ t218 then (if t218 ≤ (t211.size : Int) then ((wire_Int.f kj13 (t211.extract 0 (t218 : Int).toNat) 0).bind fun bt219 => ((workpiecelaw01_pick.f a3 (t216.size : Int)).bind fun t222 => (if 0 ≤ t222 then (if t222 ≤ (t216.size : Int) then ((wire_String.f kj13 (t216.extract 0 (t222 : Int).toNat) 0).bind fun bt223 => (if (t211.size : Int) ≤ (t214.size : Int) then (if 0 ≤ (t211.size : Int) then (if t209 = true then (if bt219.2.2 = 10 then (if bt223.2.2 = 10 then ((workpiecelaw01_NumberFrom.f a0).bind fun t226 => ((workpiecelaw01_NumberFrom.f a1).bind fun t227 => (some (((t214.extract 0 ((t211.size : Int) : Int).toNat).toList == t211.toList) == (t226 == t227))))) else (some false)) else (some false)) else (some false)) else (none)) else (if t209 = true then (if bt219.2.2 = 10 then (if bt223.2.2 = 10 then ((workpiecelaw01_NumberFrom.f a0).bind fun t228 => ((workpiecelaw01_NumberFrom.f a1).bind fun t229 => (some (false == (t228 == t229))))) else (some false)) else (some false)) else (some false)))) else (none)) else (none)))) else (none)) else (none)) = some r := H
            have A26 := Aside0.mk A260
            clear A260
            by_cases c27 : 0 ≤ t218
            · rw [if_pos c27] at H
              have c27b0 := eq_true c27
              have c27b1 : decide (0 ≤ t218) = true := decide_eq_true c27
              clear c27
              by_cases c28 : t218 ≤ (t211.size : Int)
              · rw [if_pos c28] at H
                have c28b0 := eq_true c28
                have c28b1 : decide (t218 ≤ (t211.size : Int)) = true := decide_eq_true c28
                clear c28
                replace H := Option.bind_eq_some_iff.mp H
                obtain ⟨⟨t219, t220, t221⟩, A290, H⟩ := H
                replace H : ((workpiecelaw01_pick.f a3 (t216.size : Int)).bind fun t222 => (if 0 ≤ t222 then (if t222 ≤ (t216.size : Int) then ((wire_String.f kj13 (t216.extract 0 (t222 : Int).toNat) 0).bind fun bt223 => (if (t211.size : Int) ≤ (t214.size : Int) then (if 0 ≤ (t211.size : Int) then (if t209 = true then (if t221 = 10 then (if bt223.2.2 = 10 then ((workpiecelaw01_NumberFrom.f a0).bind fun t226 => ((workpiecelaw01_NumberFrom.f a1).bind fun t227 => (some (((t214.extract 0 ((t211.size : Int) : Int).toNat).toList == t211.toList) == (t226 == t227))))) else (some false)) else (some false)) else (some false)) else (none)) else (if t209 = true then (if t221 = 10 then (if bt223.2.2 = 10 then ((workpiecelaw01_NumberFrom.f a0).bind fun t228 => ((workpiecelaw01_NumberFrom.f a1).bind fun t229 => (some (false == (t228 == t229))))) else (some false)) else (some false)) else (some false)))) else (none)) else (none))) = some r := H
                have A29 := Aside0.mk A290
                clear A290
                replace H := Option.bind_eq_some_iff.mp H
                obtain ⟨t222, A300, H⟩ := H
                replace H : (if 0 ≤ t222 then (if t222 ≤ (t216.size : Int) then ((wire_String.f kj13 (t216.extract 0 (t222 : Int).toNat) 0).bind fun bt223 => (if (t211.size : Int) ≤ (t214.size : Int) then (if 0 ≤ (t211.size : Int) then (if t209 = true then (if t221 = 10 then (if bt223.2.2 = 10 then ((workpiecelaw01_NumberFrom.f a0).bind fun t226 => ((workpiecelaw01_NumberFrom.f a1).bind fun t227 => (some (((t214.extract 0 ((t211.size : Int) : Int).toNat).toList == t211.toList) == (t226 == t227))))) else (some false)) else (some false)) else (some false)) else (none)) else (if t209 = true then (if t221 = 10 then (if bt223.2.2 = 10 then ((workpiecelaw01_NumberFrom.f a0).bind fun t228 => ((workpiecelaw01_NumberFrom.f a1).bind fun t229 => (some (false == (t228 == t229))))) else (some false)) else (some false)) else (some false)))) else (none)) else (none)) = some r := H
                have A30 := Aside0.mk A300
                clear A300
                by_cases c31 : 0 ≤ t222
                · rw [if_pos c31] at H
                  have c31b0 := eq_true c31
                  have c31b1 : decide (0 ≤ t222) = true := decide_eq_true c31
                  clear c31
                  by_cases c32 : t222 ≤ (t216.size : Int)
                  · rw [if_pos c32] at H
                    have c32b0 := eq_true c32
                    have c32b1 : decide (t222 ≤ (t216.size : Int)) = true := decide_eq_true c32
                    clear c32
                    replace H := Option.bind_eq_some_iff.mp H
                    obtain ⟨⟨t223, t224, t225⟩, A330, H⟩ := H
                    replace H : (if (t211.size : Int) ≤ (t214.size : Int) then (if 0 ≤ (t211.size : Int) then (if t209 = true then (if t221 = 10 then (if t225 = 10 then ((workpiecelaw01_NumberFrom.f a0).bind fun t226 => ((workpiecelaw01_NumberFrom.f a1).bind fun t227 => (some (((t214.extract 0 ((t211.size : Int) : Int).toNat).toList == t211.toList) == (t226 == t227))))) else (some false)) else (some false)) else (some false)) else (none)) else (if t209 = true then (if t221 = 10 then (if t225 = 10 then ((workpiecelaw01_NumberFrom.f a0).bind fun t228 => ((workpiecelaw01_NumberFrom.f a1).bind fun t229 => (some (false == (t228 == t229))))) else (some false)) else (some false)) else (some false))) = some r := H
                    have A33 := Aside0.mk A330
                    clear A330
                    by_cases c34 : (t211.size : Int) ≤ (t214.size : Int)
                    · rw [if_pos c34] at H
                      have c34b0 : decide ((t211.size : Int) ≤ (t214.size : Int)) = true := decide_eq_true c34
                      have c34b1 : decide (t211.size ≤ t214.size) = true := decide_eq_true (Int.ofNat_le.mp c34)
                      clear c34
                      by_cases c35 : 0 ≤ (t211.size : Int)
                      · rw [if_pos c35] at H
                        have c35b0 := eq_true c35
                        have c35b1 : decide (0 ≤ (t211.size : Int)) = true := decide_eq_true c35
                        clear c35
                        have c36b0 := eq_true (of_decide_eq_true (by first | (with_reducible assumption) | assumption) : (t211.size : Int) ≤ (t214.size : Int))
                        by_cases c37 : t209 = true
                        · subst c37
                          have H1 : (if t221 = 10 then (if t225 = 10 then ((workpiecelaw01_NumberFrom.f a0).bind fun t226 => ((workpiecelaw01_NumberFrom.f a1).bind fun t227 => (some (((t214.extract 0 ((t211.size : Int) : Int).toNat).toList == t211.toList) == (t226 == t227))))) else (some false)) else (some false)) = some r := by rw [if_pos rfl] at H; exact H
                          clear H
                          have H := H1
                          clear H1
                          by_cases c38 : t221 = 10
                          · rw [if_pos c38] at H
                            have c38b0 : (t221 == 10) = true := beq_iff_eq.mpr c38
                            have c38b1 : (t221 != 10) = false := bne_eq_false_iff_eq.mpr c38
                            clear c38
                            by_cases c39 : t225 = 10
                            · rw [if_pos c39] at H
                              have c39b0 : (t225 == 10) = true := beq_iff_eq.mpr c39
                              have c39b1 : (t225 != 10) = false := bne_eq_false_iff_eq.mpr c39
                              clear c39
                              replace H := Option.bind_eq_some_iff.mp H
                              obtain ⟨t226, A400, H⟩ := H
                              replace H : ((workpiecelaw01_NumberFrom.f a1).bind fun t227 => (some (((t214.extract 0 ((t211.size : Int) : Int).toNat).toList == t211.toList) == (t226 == t227)))) = some r := H
                              have A40 := Aside0.mk A400
                              clear A400
                              replace H := Option.bind_eq_some_iff.mp H
                              obtain ⟨t227, A410, H⟩ := H
                              replace H : (some (((t214.extract 0 ((t211.size : Int) : Int).toNat).toList == t211.toList) == (t226 == t227))) = some r := H
                              have A41 := Aside0.mk A410
                              clear A410
                              first
                              | exact absurd ((Option.some.inj H).trans hr) (by decide)
                              | (clear hr
                                 obtain rfl := Option.some.inj H
                                 go_wp2_with (first | ((with_reducible refine gate_callee (f := 14) rfl ?_); refine goesL_ (some 70) rfl rfl Tryd.func14 (by kernel_rfl) rfl #[.int .i64 a3, .int .i64 (t211.size : Int)] rfl (by (try simp only [List.map_toArray, List.map_cons, List.map_nil]); first | done | rfl | (simp only [List.length_drop, List.length_take]; rfl)) ?_; (with_reducible refine (workpiecelaw01_pick.calls a3 (t211.size : Int) t218 _ A26.out).mono ?_); rintro e w' ⟨rfl, ⟨nd, rfl⟩⟩; refine ⟨_, rfl, ?_⟩) | ((with_reducible refine gate_callee (f := 15) rfl ?_); refine goesL_ (some 72) rfl rfl Tryd.func15 (by kernel_rfl) rfl #[.string (t211.extract 0 (t218 : Int).toNat), .int .i64 0] rfl (by (try simp only [List.map_toArray, List.map_cons, List.map_nil]); first | done | rfl | (simp only [List.length_drop, List.length_take]; rfl)) ?_; (with_reducible refine (wire_Int.calls kj13 (t211.extract 0 (t218 : Int).toNat) 0 t219 t220 t221 _ A29.out).mono ?_); rintro e w' ⟨rfl, ⟨nd, rfl⟩⟩; refine ⟨_, rfl, ?_⟩) | ((with_reducible refine gate_callee (f := 14) rfl ?_); refine goesL_ (some 81) rfl rfl Tryd.func14 (by kernel_rfl) rfl #[.int .i64 a3, .int .i64 (t216.size : Int)] rfl (by (try simp only [List.map_toArray, List.map_cons, List.map_nil]); first | done | rfl | (simp only [List.length_drop, List.length_take]; rfl)) ?_; (with_reducible refine (workpiecelaw01_pick.calls a3 (t216.size : Int) t222 _ A30.out).mono ?_); rintro e w' ⟨rfl, ⟨nd, rfl⟩⟩; refine ⟨_, rfl, ?_⟩) | ((with_reducible refine gate_callee (f := 17) rfl ?_); refine goesL_ (some 83) rfl rfl Tryd.func17 (by kernel_rfl) rfl #[.string (t216.extract 0 (t222 : Int).toNat), .int .i64 0] rfl (by (try simp only [List.map_toArray, List.map_cons, List.map_nil]); first | done | rfl | (simp only [List.length_drop, List.length_take]; rfl)) ?_; (with_reducible refine (wire_String.calls kj13 (t216.extract 0 (t222 : Int).toNat) 0 t223 t224 t225 _ A33.out).mono ?_); rintro e w' ⟨rfl, ⟨nd, rfl⟩⟩; refine ⟨_, rfl, ?_⟩) | (go_at_call 11; (with_reducible refine (workpiecelaw01_NumberFrom.calls a0 t226 _ A40.out).mono ?_); rintro e w42 ⟨rfl, hb⟩; have n0_ := Aside0.mk (below_step (by repeat (first | (with_reducible first | exact HB.out | apply below_alloc | apply pw_below_drewN | apply below_drew1) | exact HB.out)) hb); clear HB; have HB := n0_; clear n0_; (try clear hb); (try clear hb2); (try clear hk); (try clear hi)) | (go_at_call 11; (with_reducible refine (workpiecelaw01_NumberFrom.calls a1 t227 _ A41.out).mono ?_); rintro e w43 ⟨rfl, hb⟩; have n0_ := Aside0.mk (below_step (by repeat (first | (with_reducible first | exact HB.out | apply below_alloc | apply pw_below_drewN | apply below_drew1) | exact HB.out)) hb); clear HB; have HB := n0_; clear n0_; (try clear hb); (try clear hb2); (try clear hk); (try clear hi)))
                                 go_ret
                                 exact ⟨by first | rfl | (simp [errW_none, errW_some] <;> rfl) | (simp only [← hji10]; first | rfl | (simp [errW_none, errW_some] <;> rfl)) | (simp [*, errW_none, errW_some] <;> rfl), by repeat (first | (with_reducible first | exact HB.out | apply below_alloc | apply pw_below_drewN | apply below_drew1) | exact HB.out)⟩)
                            · rw [if_neg c39] at H
                              have c39b0 : (t225 == 10) = false := beq_eq_false_iff_ne.mpr c39
                              have c39b1 : (t225 != 10) = true := bne_iff_ne.mpr c39
                              first
                              | exact absurd ((Option.some.inj H).trans hr) (by decide)
                              | (clear hr
                                 obtain rfl := Option.some.inj H
                                 go_wp2_with (first | ((with_reducible refine gate_callee (f := 14) rfl ?_); refine goesL_ (some 70) rfl rfl Tryd.func14 (by kernel_rfl) rfl #[.int .i64 a3, .int .i64 (t211.size : Int)] rfl (by (try simp only [List.map_toArray, List.map_cons, List.map_nil]); first | done | rfl | (simp only [List.length_drop, List.length_take]; rfl)) ?_; (with_reducible refine (workpiecelaw01_pick.calls a3 (t211.size : Int) t218 _ A26.out).mono ?_); rintro e w' ⟨rfl, ⟨nd, rfl⟩⟩; refine ⟨_, rfl, ?_⟩) | ((with_reducible refine gate_callee (f := 15) rfl ?_); refine goesL_ (some 72) rfl rfl Tryd.func15 (by kernel_rfl) rfl #[.string (t211.extract 0 (t218 : Int).toNat), .int .i64 0] rfl (by (try simp only [List.map_toArray, List.map_cons, List.map_nil]); first | done | rfl | (simp only [List.length_drop, List.length_take]; rfl)) ?_; (with_reducible refine (wire_Int.calls kj13 (t211.extract 0 (t218 : Int).toNat) 0 t219 t220 t221 _ A29.out).mono ?_); rintro e w' ⟨rfl, ⟨nd, rfl⟩⟩; refine ⟨_, rfl, ?_⟩) | ((with_reducible refine gate_callee (f := 14) rfl ?_); refine goesL_ (some 81) rfl rfl Tryd.func14 (by kernel_rfl) rfl #[.int .i64 a3, .int .i64 (t216.size : Int)] rfl (by (try simp only [List.map_toArray, List.map_cons, List.map_nil]); first | done | rfl | (simp only [List.length_drop, List.length_take]; rfl)) ?_; (with_reducible refine (workpiecelaw01_pick.calls a3 (t216.size : Int) t222 _ A30.out).mono ?_); rintro e w' ⟨rfl, ⟨nd, rfl⟩⟩; refine ⟨_, rfl, ?_⟩) | ((with_reducible refine gate_callee (f := 17) rfl ?_); refine goesL_ (some 83) rfl rfl Tryd.func17 (by kernel_rfl) rfl #[.string (t216.extract 0 (t222 : Int).toNat), .int .i64 0] rfl (by (try simp only [List.map_toArray, List.map_cons, List.map_nil]); first | done | rfl | (simp only [List.length_drop, List.length_take]; rfl)) ?_; (with_reducible refine (wire_String.calls kj13 (t216.extract 0 (t222 : Int).toNat) 0 t223 t224 t225 _ A33.out).mono ?_); rintro e w' ⟨rfl, ⟨nd, rfl⟩⟩; refine ⟨_, rfl, ?_⟩))
                                 go_ret
                                 exact ⟨by first | rfl | (simp [errW_none, errW_some] <;> rfl) | (simp only [← hji10]; first | rfl | (simp [errW_none, errW_some] <;> rfl)) | (simp [*, errW_none, errW_some] <;> rfl), by repeat (first | (with_reducible first | exact HB.out | apply below_alloc | apply pw_below_drewN | apply below_drew1) | exact HB.out)⟩)
                          · rw [if_neg c38] at H
                            have c38b0 : (t221 == 10) = false := beq_eq_false_iff_ne.mpr c38
                            have c38b1 : (t221 != 10) = true := bne_iff_ne.mpr c38
                            first
                            | exact absurd ((Option.some.inj H).trans hr) (by decide)
                            | (clear hr
                               obtain rfl := Option.some.inj H
                               go_wp2_with (first | ((with_reducible refine gate_callee (f := 14) rfl ?_); refine goesL_ (some 70) rfl rfl Tryd.func14 (by kernel_rfl) rfl #[.int .i64 a3, .int .i64 (t211.size : Int)] rfl (by (try simp only [List.map_toArray, List.map_cons, List.map_nil]); first | done | rfl | (simp only [List.length_drop, List.length_take]; rfl)) ?_; (with_reducible refine (workpiecelaw01_pick.calls a3 (t211.size : Int) t218 _ A26.out).mono ?_); rintro e w' ⟨rfl, ⟨nd, rfl⟩⟩; refine ⟨_, rfl, ?_⟩) | ((with_reducible refine gate_callee (f := 15) rfl ?_); refine goesL_ (some 72) rfl rfl Tryd.func15 (by kernel_rfl) rfl #[.string (t211.extract 0 (t218 : Int).toNat), .int .i64 0] rfl (by (try simp only [List.map_toArray, List.map_cons, List.map_nil]); first | done | rfl | (simp only [List.length_drop, List.length_take]; rfl)) ?_; (with_reducible refine (wire_Int.calls kj13 (t211.extract 0 (t218 : Int).toNat) 0 t219 t220 t221 _ A29.out).mono ?_); rintro e w' ⟨rfl, ⟨nd, rfl⟩⟩; refine ⟨_, rfl, ?_⟩) | ((with_reducible refine gate_callee (f := 14) rfl ?_); refine goesL_ (some 81) rfl rfl Tryd.func14 (by kernel_rfl) rfl #[.int .i64 a3, .int .i64 (t216.size : Int)] rfl (by (try simp only [List.map_toArray, List.map_cons, List.map_nil]); first | done | rfl | (simp only [List.length_drop, List.length_take]; rfl)) ?_; (with_reducible refine (workpiecelaw01_pick.calls a3 (t216.size : Int) t222 _ A30.out).mono ?_); rintro e w' ⟨rfl, ⟨nd, rfl⟩⟩; refine ⟨_, rfl, ?_⟩) | ((with_reducible refine gate_callee (f := 17) rfl ?_); refine goesL_ (some 83) rfl rfl Tryd.func17 (by kernel_rfl) rfl #[.string (t216.extract 0 (t222 : Int).toNat), .int .i64 0] rfl (by (try simp only [List.map_toArray, List.map_cons, List.map_nil]); first | done | rfl | (simp only [List.length_drop, List.length_take]; rfl)) ?_; (with_reducible refine (wire_String.calls kj13 (t216.extract 0 (t222 : Int).toNat) 0 t223 t224 t225 _ A33.out).mono ?_); rintro e w' ⟨rfl, ⟨nd, rfl⟩⟩; refine ⟨_, rfl, ?_⟩))
                               go_ret
                               exact ⟨by first | rfl | (simp [errW_none, errW_some] <;> rfl) | (simp only [← hji10]; first | rfl | (simp [errW_none, errW_some] <;> rfl)) | (simp [*, errW_none, errW_some] <;> rfl), by repeat (first | (with_reducible first | exact HB.out | apply below_alloc | apply pw_below_drewN | apply below_drew1) | exact HB.out)⟩)
                        · replace c37 := Bool.eq_false_iff.mpr c37
                          subst c37
                          have H1 : (some false) = some r := by rw [if_neg (show ¬ (false = true) by decide)] at H; exact H
                          clear H
                          have H := H1
                          clear H1
                          first
                          | exact absurd ((Option.some.inj H).trans hr) (by decide)
                          | (clear hr
                             obtain rfl := Option.some.inj H
                             go_wp2_with (first | ((with_reducible refine gate_callee (f := 14) rfl ?_); refine goesL_ (some 70) rfl rfl Tryd.func14 (by kernel_rfl) rfl #[.int .i64 a3, .int .i64 (t211.size : Int)] rfl (by (try simp only [List.map_toArray, List.map_cons, List.map_nil]); first | done | rfl | (simp only [List.length_drop, List.length_take]; rfl)) ?_; (with_reducible refine (workpiecelaw01_pick.calls a3 (t211.size : Int) t218 _ A26.out).mono ?_); rintro e w' ⟨rfl, ⟨nd, rfl⟩⟩; refine ⟨_, rfl, ?_⟩) | ((with_reducible refine gate_callee (f := 15) rfl ?_); refine goesL_ (some 72) rfl rfl Tryd.func15 (by kernel_rfl) rfl #[.string (t211.extract 0 (t218 : Int).toNat), .int .i64 0] rfl (by (try simp only [List.map_toArray, List.map_cons, List.map_nil]); first | done | rfl | (simp only [List.length_drop, List.length_take]; rfl)) ?_; (with_reducible refine (wire_Int.calls kj13 (t211.extract 0 (t218 : Int).toNat) 0 t219 t220 t221 _ A29.out).mono ?_); rintro e w' ⟨rfl, ⟨nd, rfl⟩⟩; refine ⟨_, rfl, ?_⟩) | ((with_reducible refine gate_callee (f := 14) rfl ?_); refine goesL_ (some 81) rfl rfl Tryd.func14 (by kernel_rfl) rfl #[.int .i64 a3, .int .i64 (t216.size : Int)] rfl (by (try simp only [List.map_toArray, List.map_cons, List.map_nil]); first | done | rfl | (simp only [List.length_drop, List.length_take]; rfl)) ?_; (with_reducible refine (workpiecelaw01_pick.calls a3 (t216.size : Int) t222 _ A30.out).mono ?_); rintro e w' ⟨rfl, ⟨nd, rfl⟩⟩; refine ⟨_, rfl, ?_⟩) | ((with_reducible refine gate_callee (f := 17) rfl ?_); refine goesL_ (some 83) rfl rfl Tryd.func17 (by kernel_rfl) rfl #[.string (t216.extract 0 (t222 : Int).toNat), .int .i64 0] rfl (by (try simp only [List.map_toArray, List.map_cons, List.map_nil]); first | done | rfl | (simp only [List.length_drop, List.length_take]; rfl)) ?_; (with_reducible refine (wire_String.calls kj13 (t216.extract 0 (t222 : Int).toNat) 0 t223 t224 t225 _ A33.out).mono ?_); rintro e w' ⟨rfl, ⟨nd, rfl⟩⟩; refine ⟨_, rfl, ?_⟩))
                             go_ret
                             exact ⟨by first | rfl | (simp [errW_none, errW_some] <;> rfl) | (simp only [← hji10]; first | rfl | (simp [errW_none, errW_some] <;> rfl)) | (simp [*, errW_none, errW_some] <;> rfl), by repeat (first | (with_reducible first | exact HB.out | apply below_alloc | apply pw_below_drewN | apply below_drew1) | exact HB.out)⟩)
                      · rw [if_neg c35] at H
                        exact absurd H (by simp)
                    · rw [if_neg c34] at H
                      have c34b0 : decide ((t211.size : Int) ≤ (t214.size : Int)) = false := decide_eq_false c34
                      have c34b1 : decide (t211.size ≤ t214.size) = false := decide_eq_false (fun h => c34 (Int.ofNat_le.mpr h))
                      clear c34
                      by_cases c44 : t209 = true
                      · subst c44
                        have H1 : (if t221 = 10 then (if t225 = 10 then ((workpiecelaw01_NumberFrom.f a0).bind fun t228 => ((workpiecelaw01_NumberFrom.f a1).bind fun t229 => (some (false == (t228 == t229))))) else (some false)) else (some false)) = some r := by rw [if_pos rfl] at H; exact H
                        clear H
                        have H := H1
                        clear H1
                        by_cases c45 : t221 = 10
                        · rw [if_pos c45] at H
                          have c45b0 : (t221 == 10) = true := beq_iff_eq.mpr c45
                          have c45b1 : (t221 != 10) = false := bne_eq_false_iff_eq.mpr c45
                          clear c45
                          by_cases c46 : t225 = 10
                          · rw [if_pos c46] at H
                            have c46b0 : (t225 == 10) = true := beq_iff_eq.mpr c46
                            have c46b1 : (t225 != 10) = false := bne_eq_false_iff_eq.mpr c46
                            clear c46
                            replace H := Option.bind_eq_some_iff.mp H
                            obtain ⟨t228, A470, H⟩ := H
                            replace H : ((workpiecelaw01_NumberFrom.f a1).bind fun t229 => (some (false == (t228 == t229)))) = some r := H
                            have A47 := Aside0.mk A470
                            clear A470
                            replace H := Option.bind_eq_some_iff.mp H
                            obtain ⟨t229, A480, H⟩ := H
                            replace H : (some (false == (t228 == t229))) = some r := H
                            have A48 := Aside0.mk A480
                            clear A480
                            first
                            | exact absurd ((Option.some.inj H).trans hr) (by decide)
                            | (clear hr
                               obtain rfl := Option.some.inj H
                               go_wp2_with (first | ((with_reducible refine gate_callee (f := 14) rfl ?_); refine goesL_ (some 70) rfl rfl Tryd.func14 (by kernel_rfl) rfl #[.int .i64 a3, .int .i64 (t211.size : Int)] rfl (by (try simp only [List.map_toArray, List.map_cons, List.map_nil]); first | done | rfl | (simp only [List.length_drop, List.length_take]; rfl)) ?_; (with_reducible refine (workpiecelaw01_pick.calls a3 (t211.size : Int) t218 _ A26.out).mono ?_); rintro e w' ⟨rfl, ⟨nd, rfl⟩⟩; refine ⟨_, rfl, ?_⟩) | ((with_reducible refine gate_callee (f := 15) rfl ?_); refine goesL_ (some 72) rfl rfl Tryd.func15 (by kernel_rfl) rfl #[.string (t211.extract 0 (t218 : Int).toNat), .int .i64 0] rfl (by (try simp only [List.map_toArray, List.map_cons, List.map_nil]); first | done | rfl | (simp only [List.length_drop, List.length_take]; rfl)) ?_; (with_reducible refine (wire_Int.calls kj13 (t211.extract 0 (t218 : Int).toNat) 0 t219 t220 t221 _ A29.out).mono ?_); rintro e w' ⟨rfl, ⟨nd, rfl⟩⟩; refine ⟨_, rfl, ?_⟩) | ((with_reducible refine gate_callee (f := 14) rfl ?_); refine goesL_ (some 81) rfl rfl Tryd.func14 (by kernel_rfl) rfl #[.int .i64 a3, .int .i64 (t216.size : Int)] rfl (by (try simp only [List.map_toArray, List.map_cons, List.map_nil]); first | done | rfl | (simp only [List.length_drop, List.length_take]; rfl)) ?_; (with_reducible refine (workpiecelaw01_pick.calls a3 (t216.size : Int) t222 _ A30.out).mono ?_); rintro e w' ⟨rfl, ⟨nd, rfl⟩⟩; refine ⟨_, rfl, ?_⟩) | ((with_reducible refine gate_callee (f := 17) rfl ?_); refine goesL_ (some 83) rfl rfl Tryd.func17 (by kernel_rfl) rfl #[.string (t216.extract 0 (t222 : Int).toNat), .int .i64 0] rfl (by (try simp only [List.map_toArray, List.map_cons, List.map_nil]); first | done | rfl | (simp only [List.length_drop, List.length_take]; rfl)) ?_; (with_reducible refine (wire_String.calls kj13 (t216.extract 0 (t222 : Int).toNat) 0 t223 t224 t225 _ A33.out).mono ?_); rintro e w' ⟨rfl, ⟨nd, rfl⟩⟩; refine ⟨_, rfl, ?_⟩) | (go_at_call 11; (with_reducible refine (workpiecelaw01_NumberFrom.calls a0 t228 _ A47.out).mono ?_); rintro e w49 ⟨rfl, hb⟩; have n0_ := Aside0.mk (below_step (by repeat (first | (with_reducible first | exact HB.out | apply below_alloc | apply pw_below_drewN | apply below_drew1) | exact HB.out)) hb); clear HB; have HB := n0_; clear n0_; (try clear hb); (try clear hb2); (try clear hk); (try clear hi)) | (go_at_call 11; (with_reducible refine (workpiecelaw01_NumberFrom.calls a1 t229 _ A48.out).mono ?_); rintro e w50 ⟨rfl, hb⟩; have n0_ := Aside0.mk (below_step (by repeat (first | (with_reducible first | exact HB.out | apply below_alloc | apply pw_below_drewN | apply below_drew1) | exact HB.out)) hb); clear HB; have HB := n0_; clear n0_; (try clear hb); (try clear hb2); (try clear hk); (try clear hi)))
                               go_ret
                               exact ⟨by first | rfl | (simp [errW_none, errW_some] <;> rfl) | (simp only [← hji10]; first | rfl | (simp [errW_none, errW_some] <;> rfl)) | (simp [*, errW_none, errW_some] <;> rfl), by repeat (first | (with_reducible first | exact HB.out | apply below_alloc | apply pw_below_drewN | apply below_drew1) | exact HB.out)⟩)
                          · rw [if_neg c46] at H
                            have c46b0 : (t225 == 10) = false := beq_eq_false_iff_ne.mpr c46
                            have c46b1 : (t225 != 10) = true := bne_iff_ne.mpr c46
                            first
                            | exact absurd ((Option.some.inj H).trans hr) (by decide)
                            | (clear hr
                               obtain rfl := Option.some.inj H
                               go_wp2_with (first | ((with_reducible refine gate_callee (f := 14) rfl ?_); refine goesL_ (some 70) rfl rfl Tryd.func14 (by kernel_rfl) rfl #[.int .i64 a3, .int .i64 (t211.size : Int)] rfl (by (try simp only [List.map_toArray, List.map_cons, List.map_nil]); first | done | rfl | (simp only [List.length_drop, List.length_take]; rfl)) ?_; (with_reducible refine (workpiecelaw01_pick.calls a3 (t211.size : Int) t218 _ A26.out).mono ?_); rintro e w' ⟨rfl, ⟨nd, rfl⟩⟩; refine ⟨_, rfl, ?_⟩) | ((with_reducible refine gate_callee (f := 15) rfl ?_); refine goesL_ (some 72) rfl rfl Tryd.func15 (by kernel_rfl) rfl #[.string (t211.extract 0 (t218 : Int).toNat), .int .i64 0] rfl (by (try simp only [List.map_toArray, List.map_cons, List.map_nil]); first | done | rfl | (simp only [List.length_drop, List.length_take]; rfl)) ?_; (with_reducible refine (wire_Int.calls kj13 (t211.extract 0 (t218 : Int).toNat) 0 t219 t220 t221 _ A29.out).mono ?_); rintro e w' ⟨rfl, ⟨nd, rfl⟩⟩; refine ⟨_, rfl, ?_⟩) | ((with_reducible refine gate_callee (f := 14) rfl ?_); refine goesL_ (some 81) rfl rfl Tryd.func14 (by kernel_rfl) rfl #[.int .i64 a3, .int .i64 (t216.size : Int)] rfl (by (try simp only [List.map_toArray, List.map_cons, List.map_nil]); first | done | rfl | (simp only [List.length_drop, List.length_take]; rfl)) ?_; (with_reducible refine (workpiecelaw01_pick.calls a3 (t216.size : Int) t222 _ A30.out).mono ?_); rintro e w' ⟨rfl, ⟨nd, rfl⟩⟩; refine ⟨_, rfl, ?_⟩) | ((with_reducible refine gate_callee (f := 17) rfl ?_); refine goesL_ (some 83) rfl rfl Tryd.func17 (by kernel_rfl) rfl #[.string (t216.extract 0 (t222 : Int).toNat), .int .i64 0] rfl (by (try simp only [List.map_toArray, List.map_cons, List.map_nil]); first | done | rfl | (simp only [List.length_drop, List.length_take]; rfl)) ?_; (with_reducible refine (wire_String.calls kj13 (t216.extract 0 (t222 : Int).toNat) 0 t223 t224 t225 _ A33.out).mono ?_); rintro e w' ⟨rfl, ⟨nd, rfl⟩⟩; refine ⟨_, rfl, ?_⟩))
                               go_ret
                               exact ⟨by first | rfl | (simp [errW_none, errW_some] <;> rfl) | (simp only [← hji10]; first | rfl | (simp [errW_none, errW_some] <;> rfl)) | (simp [*, errW_none, errW_some] <;> rfl), by repeat (first | (with_reducible first | exact HB.out | apply below_alloc | apply pw_below_drewN | apply below_drew1) | exact HB.out)⟩)
                        · rw [if_neg c45] at H
                          have c45b0 : (t221 == 10) = false := beq_eq_false_iff_ne.mpr c45
                          have c45b1 : (t221 != 10) = true := bne_iff_ne.mpr c45
                          first
                          | exact absurd ((Option.some.inj H).trans hr) (by decide)
                          | (clear hr
                             obtain rfl := Option.some.inj H
                             go_wp2_with (first | ((with_reducible refine gate_callee (f := 14) rfl ?_); refine goesL_ (some 70) rfl rfl Tryd.func14 (by kernel_rfl) rfl #[.int .i64 a3, .int .i64 (t211.size : Int)] rfl (by (try simp only [List.map_toArray, List.map_cons, List.map_nil]); first | done | rfl | (simp only [List.length_drop, List.length_take]; rfl)) ?_; (with_reducible refine (workpiecelaw01_pick.calls a3 (t211.size : Int) t218 _ A26.out).mono ?_); rintro e w' ⟨rfl, ⟨nd, rfl⟩⟩; refine ⟨_, rfl, ?_⟩) | ((with_reducible refine gate_callee (f := 15) rfl ?_); refine goesL_ (some 72) rfl rfl Tryd.func15 (by kernel_rfl) rfl #[.string (t211.extract 0 (t218 : Int).toNat), .int .i64 0] rfl (by (try simp only [List.map_toArray, List.map_cons, List.map_nil]); first | done | rfl | (simp only [List.length_drop, List.length_take]; rfl)) ?_; (with_reducible refine (wire_Int.calls kj13 (t211.extract 0 (t218 : Int).toNat) 0 t219 t220 t221 _ A29.out).mono ?_); rintro e w' ⟨rfl, ⟨nd, rfl⟩⟩; refine ⟨_, rfl, ?_⟩) | ((with_reducible refine gate_callee (f := 14) rfl ?_); refine goesL_ (some 81) rfl rfl Tryd.func14 (by kernel_rfl) rfl #[.int .i64 a3, .int .i64 (t216.size : Int)] rfl (by (try simp only [List.map_toArray, List.map_cons, List.map_nil]); first | done | rfl | (simp only [List.length_drop, List.length_take]; rfl)) ?_; (with_reducible refine (workpiecelaw01_pick.calls a3 (t216.size : Int) t222 _ A30.out).mono ?_); rintro e w' ⟨rfl, ⟨nd, rfl⟩⟩; refine ⟨_, rfl, ?_⟩) | ((with_reducible refine gate_callee (f := 17) rfl ?_); refine goesL_ (some 83) rfl rfl Tryd.func17 (by kernel_rfl) rfl #[.string (t216.extract 0 (t222 : Int).toNat), .int .i64 0] rfl (by (try simp only [List.map_toArray, List.map_cons, List.map_nil]); first | done | rfl | (simp only [List.length_drop, List.length_take]; rfl)) ?_; (with_reducible refine (wire_String.calls kj13 (t216.extract 0 (t222 : Int).toNat) 0 t223 t224 t225 _ A33.out).mono ?_); rintro e w' ⟨rfl, ⟨nd, rfl⟩⟩; refine ⟨_, rfl, ?_⟩))
                             go_ret
                             exact ⟨by first | rfl | (simp [errW_none, errW_some] <;> rfl) | (simp only [← hji10]; first | rfl | (simp [errW_none, errW_some] <;> rfl)) | (simp [*, errW_none, errW_some] <;> rfl), by repeat (first | (with_reducible first | exact HB.out | apply below_alloc | apply pw_below_drewN | apply below_drew1) | exact HB.out)⟩)
                      · replace c44 := Bool.eq_false_iff.mpr c44
                        subst c44
                        have H1 : (some false) = some r := by rw [if_neg (show ¬ (false = true) by decide)] at H; exact H
                        clear H
                        have H := H1
                        clear H1
                        first
                        | exact absurd ((Option.some.inj H).trans hr) (by decide)
                        | (clear hr
                           obtain rfl := Option.some.inj H
                           go_wp2_with (first | ((with_reducible refine gate_callee (f := 14) rfl ?_); refine goesL_ (some 70) rfl rfl Tryd.func14 (by kernel_rfl) rfl #[.int .i64 a3, .int .i64 (t211.size : Int)] rfl (by (try simp only [List.map_toArray, List.map_cons, List.map_nil]); first | done | rfl | (simp only [List.length_drop, List.length_take]; rfl)) ?_; (with_reducible refine (workpiecelaw01_pick.calls a3 (t211.size : Int) t218 _ A26.out).mono ?_); rintro e w' ⟨rfl, ⟨nd, rfl⟩⟩; refine ⟨_, rfl, ?_⟩) | ((with_reducible refine gate_callee (f := 15) rfl ?_); refine goesL_ (some 72) rfl rfl Tryd.func15 (by kernel_rfl) rfl #[.string (t211.extract 0 (t218 : Int).toNat), .int .i64 0] rfl (by (try simp only [List.map_toArray, List.map_cons, List.map_nil]); first | done | rfl | (simp only [List.length_drop, List.length_take]; rfl)) ?_; (with_reducible refine (wire_Int.calls kj13 (t211.extract 0 (t218 : Int).toNat) 0 t219 t220 t221 _ A29.out).mono ?_); rintro e w' ⟨rfl, ⟨nd, rfl⟩⟩; refine ⟨_, rfl, ?_⟩) | ((with_reducible refine gate_callee (f := 14) rfl ?_); refine goesL_ (some 81) rfl rfl Tryd.func14 (by kernel_rfl) rfl #[.int .i64 a3, .int .i64 (t216.size : Int)] rfl (by (try simp only [List.map_toArray, List.map_cons, List.map_nil]); first | done | rfl | (simp only [List.length_drop, List.length_take]; rfl)) ?_; (with_reducible refine (workpiecelaw01_pick.calls a3 (t216.size : Int) t222 _ A30.out).mono ?_); rintro e w' ⟨rfl, ⟨nd, rfl⟩⟩; refine ⟨_, rfl, ?_⟩) | ((with_reducible refine gate_callee (f := 17) rfl ?_); refine goesL_ (some 83) rfl rfl Tryd.func17 (by kernel_rfl) rfl #[.string (t216.extract 0 (t222 : Int).toNat), .int .i64 0] rfl (by (try simp only [List.map_toArray, List.map_cons, List.map_nil]); first | done | rfl | (simp only [List.length_drop, List.length_take]; rfl)) ?_; (with_reducible refine (wire_String.calls kj13 (t216.extract 0 (t222 : Int).toNat) 0 t223 t224 t225 _ A33.out).mono ?_); rintro e w' ⟨rfl, ⟨nd, rfl⟩⟩; refine ⟨_, rfl, ?_⟩))
                           go_ret
                           exact ⟨by first | rfl | (simp [errW_none, errW_some] <;> rfl) | (simp only [← hji10]; first | rfl | (simp [errW_none, errW_some] <;> rfl)) | (simp [*, errW_none, errW_some] <;> rfl), by repeat (first | (with_reducible first | exact HB.out | apply below_alloc | apply pw_below_drewN | apply below_drew1) | exact HB.out)⟩)
                  · rw [if_neg c32] at H
                    exact absurd H (by simp)
                · rw [if_neg c31] at H
                  exact absurd H (by simp)
              · rw [if_neg c28] at H
                exact absurd H (by simp)
            · rw [if_neg c27] at H
              exact absurd H (by simp)
    · rw [if_neg c12] at H
      exact absurd H (by simp)
  · rw [if_neg c11] at H
    exact absurd H (by simp)

/-- THE ONE PURE STATEMENT of workpiecelaw01_WireTruncated: yours. -/
def workpiecelaw01_WireTruncated.Pure : Prop := ∀ (a0 : Int) (a1 : Int) (a2 : ByteArray) (a3 : Int), (Lit.int .i64 a0).wf = true → (Lit.int .i64 a1).wf = true → a2.size ≤ 140737488351232 → (Lit.int .i64 a3).wf = true → ∃ k, workpiecelaw01_WireTruncated.f k a0 a1 a2 a3 = some true
theorem workpiecelaw01_WireTruncated.walk (P : workpiecelaw01_WireTruncated.Pure) (a0 : Int) (a1 : Int) (a2 : ByteArray) (a3 : Int) (w : World) (w0 : (Lit.int .i64 a0).wf = true) (w1 : (Lit.int .i64 a1).wf = true) (w2 : a2.size ≤ 140737488351232) (w3 : (Lit.int .i64 a3).wf = true) (hN : Aside0 (Nib w)) :
    Calls Tryd.prog 7 #[.int .i64 a0, .int .i64 a1, .string a2, .int .i64 a3] w fun e w' => e = .returned (.bool true) ∧ Below w.heap.size w w' := by
  obtain ⟨k, h⟩ := P a0 a1 a2 a3 w0 w1 w2 w3
  refine (workpiecelaw01_WireTruncated.calls k a0 a1 a2 a3 true w h rfl hN).mono ?_
  rintro e w' ⟨rfl, hd⟩
  exact ⟨rfl, hd⟩

end Go.Proofs.YtodaajokphoioaaDoor.L

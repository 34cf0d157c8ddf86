-- by a program of this seat (wip/tools/doctor.py, lawtext.py)
import Derived.Test.YtodaajokphoioaaDoorLx0
import Derived.Test.YtodaajokphoioaaDoorLx1
import Derived.Test.YtodaajokphoioaaDoorLx2
import Derived.Test.YtodaajokphoioaaDoorSane
namespace Go.Proofs.YtodaajokphoioaaDoor.L
open Go.RowKit Go.Proofs.YtodaajokphoioaaDoorW.PrintWords Go.Proofs.YtodaajokphoioaaDoorW.PrintLast Go.Proofs.YtodaajokphoioaaDoorW.PrintMore
attribute [local go_sem] max2_int min2_int max_two min_two max_three min_three max_four min_four   -- for this text's walks alone
set_option linter.unusedVariables false
set_option linter.unusedSimpArgs false

/-! ### workpiecelaw01_WireMatchesReference: function 3 -/
mutual
def workpiecelaw01_WireMatchesReference.l0 : Nat → Int → Bool → ByteArray → List Int → Int → Int → Option (Bool)
  | 0, _, _, _, _, _, _ => none
  | k + 1, x2, x7, x8, x42, x43, x44 => if x44 < x43 then (if 0 ≤ x44 then (if x44 < (x42.length : Int) then ((wire_PutInt.f (rd x42 x44)).bind fun bt163 => ((workpieceref01_PutInt.f k (rd x42 x44)).bind fun bt165 => (if bt163.1.toList = bt165.1.toList then (if bt163.2 = bt165.2 then (workpiecelaw01_WireMatchesReference.l0 k x2 x7 x8 x42 x43 (wrap64 (x44 + 1))) else (some false)) else (some false)))) else (none)) else (none)) else ((workpiecelaw01_pick.f x2 (wrap64 ((x8.size : Int) + 2))).bind fun t167 => ((some (([x2, t167] : List Int) : List Int)).bind fun y168 => (workpiecelaw01_WireMatchesReference.l1 k x7 x8 y168 (y168.length : Int) 0)))
def workpiecelaw01_WireMatchesReference.l1 : Nat → Bool → ByteArray → List Int → Int → Int → Option (Bool)
  | 0, _, _, _, _, _ => none
  | k + 1, x7, x8, x73, x74, x75 => if x75 < x74 then (if 0 ≤ x75 then (if x75 < (x73.length : Int) then ((wire_Int.f k x8 (rd x73 x75)).bind fun bt172 => ((workpieceref01_Int.f k x8 (rd x73 x75)).bind fun bt175 => ((wire_String.f k x8 (rd x73 x75)).bind fun bt178 => ((workpieceref01_String.f k x8 (rd x73 x75)).bind fun bt181 => (if bt172.1 = bt175.1 then (if bt172.2.1 = bt175.2.1 then (if bt172.2.2 = bt175.2.2 then (if bt178.1.toList = bt181.1.toList then (if bt178.2.1 = bt181.2.1 then (if bt178.2.2 = bt181.2.2 then (workpiecelaw01_WireMatchesReference.l1 k x7 x8 x73 x74 (wrap64 (x75 + 1))) else (some false)) else (some false)) else (some false)) else (some false)) else (some false)) else (some false)))))) else (none)) else (none)) else ((wire_PutString.f x8).bind fun bt184 => ((workpieceref01_PutString.f k x8).bind fun bt186 => (if x7 = true then (if bt184.1.toList = bt186.1.toList then (if bt184.2 = bt186.2 then ((wire_Sum.f x8).bind fun t188 => ((workpieceref01_Sum.f x8).bind fun t189 => (some (t188 == t189)))) else (some false)) else (some false)) else (some false))))
end
def workpiecelaw01_WireMatchesReference.f (k : Nat) (a0 : Int) (a1 : ByteArray) (a2 : Int) : Option (Bool) := (workpiecelaw01_sane.f k).bind fun t157 => (if 0 ≤ (mn (a1.size : Int) 300) then (if (mn (a1.size : Int) 300) ≤ (a1.size : Int) then ((workpiecelaw01_NumberFrom.f a0).bind fun t158 => ((some (([a0, t158] : List Int) : List Int)).bind fun y159 => (workpiecelaw01_WireMatchesReference.l0 k a2 t157 (a1.extract 0 ((mn (a1.size : Int) 300) : Int).toNat) y159 (y159.length : Int) 0))) else (none)) else (none))
theorem workpiecelaw01_WireMatchesReference.mono_l : ∀ k, (∀ y0 y1 y2 y3 y4 y5, LeO (workpiecelaw01_WireMatchesReference.l0 k y0 y1 y2 y3 y4 y5) (workpiecelaw01_WireMatchesReference.l0 (k + 1) y0 y1 y2 y3 y4 y5)) ∧ (∀ y0 y1 y2 y3 y4, LeO (workpiecelaw01_WireMatchesReference.l1 k y0 y1 y2 y3 y4) (workpiecelaw01_WireMatchesReference.l1 (k + 1) y0 y1 y2 y3 y4))
  | 0 => ⟨fun _ _ _ _ _ _ r h => by simp [workpiecelaw01_WireMatchesReference.l0] at h, fun _ _ _ _ _ r h => by simp [workpiecelaw01_WireMatchesReference.l1] at h⟩
  | k + 1 => by
    obtain ⟨ih0, ih1⟩ := workpiecelaw01_WireMatchesReference.mono_l k
    refine ⟨?_, ?_⟩
    · intro y0 y1 y2 y3 y4 y5
      unfold workpiecelaw01_WireMatchesReference.l0
      repeat' first
      | (with_reducible exact ih0 _ _ _ _ _ _)
      | (with_reducible exact ih1 _ _ _ _ _)
      | (with_reducible exact wire_Int.mono _ _ _)
      | (with_reducible exact wire_String.mono _ _ _)
      | (with_reducible exact workpiecelaw01_sane.mono _)
      | (with_reducible exact workpieceref01_Int.mono _ _ _)
      | (with_reducible exact workpieceref01_PutInt.mono _ _)
      | (with_reducible exact workpieceref01_PutString.mono _ _)
      | (with_reducible exact workpieceref01_String.mono _ _ _)
      | (with_reducible exact LeO.refl _)
      | (with_reducible exact LeO.none _)
      | (with_reducible refine LeO.ite ?_ ?_)
      | (with_reducible refine LeO.bind ?_ (fun _ => ?_))
      | exact ih0 _ _ _ _ _ _
      | exact ih1 _ _ _ _ _
      | exact wire_Int.mono _ _ _
      | exact wire_String.mono _ _ _
      | exact workpiecelaw01_sane.mono _
      | exact workpieceref01_Int.mono _ _ _
      | exact workpieceref01_PutInt.mono _ _
      | exact workpieceref01_PutString.mono _ _
      | exact workpieceref01_String.mono _ _ _
      | exact LeO.none _
      | refine LeO.ite ?_ ?_
      | refine LeO.bind ?_ (fun _ => ?_)
    · intro y0 y1 y2 y3 y4
      unfold workpiecelaw01_WireMatchesReference.l1
      repeat' first
      | (with_reducible exact ih0 _ _ _ _ _ _)
      | (with_reducible exact ih1 _ _ _ _ _)
      | (with_reducible exact wire_Int.mono _ _ _)
      | (with_reducible exact wire_String.mono _ _ _)
      | (with_reducible exact workpiecelaw01_sane.mono _)
      | (with_reducible exact workpieceref01_Int.mono _ _ _)
      | (with_reducible exact workpieceref01_PutInt.mono _ _)
      | (with_reducible exact workpieceref01_PutString.mono _ _)
      | (with_reducible exact workpieceref01_String.mono _ _ _)
      | (with_reducible exact LeO.refl _)
      | (with_reducible exact LeO.none _)
      | (with_reducible refine LeO.ite ?_ ?_)
      | (with_reducible refine LeO.bind ?_ (fun _ => ?_))
      | exact ih0 _ _ _ _ _ _
      | exact ih1 _ _ _ _ _
      | exact wire_Int.mono _ _ _
      | exact wire_String.mono _ _ _
      | exact workpiecelaw01_sane.mono _
      | exact workpieceref01_Int.mono _ _ _
      | exact workpieceref01_PutInt.mono _ _
      | exact workpieceref01_PutString.mono _ _
      | exact workpieceref01_String.mono _ _ _
      | exact LeO.none _
      | refine LeO.ite ?_ ?_
      | refine LeO.bind ?_ (fun _ => ?_)
theorem workpiecelaw01_WireMatchesReference.mono : ∀ a0 a1 a2 k, LeO (workpiecelaw01_WireMatchesReference.f k a0 a1 a2) (workpiecelaw01_WireMatchesReference.f (k + 1) a0 a1 a2) := by
  intro a0 a1 a2 k
  obtain ⟨ih0, ih1⟩ := workpiecelaw01_WireMatchesReference.mono_l k
  unfold workpiecelaw01_WireMatchesReference.f
  repeat' first
      | (with_reducible exact ih0 _ _ _ _ _ _)
      | (with_reducible exact ih1 _ _ _ _ _)
      | (with_reducible exact wire_Int.mono _ _ _)
      | (with_reducible exact wire_String.mono _ _ _)
      | (with_reducible exact workpiecelaw01_sane.mono _)
      | (with_reducible exact workpieceref01_Int.mono _ _ _)
      | (with_reducible exact workpieceref01_PutInt.mono _ _)
      | (with_reducible exact workpieceref01_PutString.mono _ _)
      | (with_reducible exact workpieceref01_String.mono _ _ _)
      | (with_reducible exact LeO.refl _)
      | (with_reducible exact LeO.none _)
      | (with_reducible refine LeO.ite ?_ ?_)
      | (with_reducible refine LeO.bind ?_ (fun _ => ?_))
      | exact ih0 _ _ _ _ _ _
      | exact ih1 _ _ _ _ _
      | exact wire_Int.mono _ _ _
      | exact wire_String.mono _ _ _
      | exact workpiecelaw01_sane.mono _
      | exact workpieceref01_Int.mono _ _ _
      | exact workpieceref01_PutInt.mono _ _
      | exact workpieceref01_PutString.mono _ _
      | exact workpieceref01_String.mono _ _ _
      | exact LeO.none _
      | refine LeO.ite ?_ ?_
      | refine LeO.bind ?_ (fun _ => ?_)
set_option maxHeartbeats 8000000 in
set_option maxRecDepth 100000 in
theorem workpiecelaw01_WireMatchesReference.calls (k : Nat) (a0 : Int) (a1 : ByteArray) (a2 : Int) (r : Bool) (w : World) (h : workpiecelaw01_WireMatchesReference.f k a0 a1 a2 = some r) (hr : r = true) (hN : Aside0 (Nib w)) :
    Calls Tryd.prog 3 #[.int .i64 a0, .string a1, .int .i64 a2] w fun e w' => e = .returned (.bool r) ∧ Below w.heap.size w w' := by
  have HB := Aside0.mk (Below.refl w.heap.size w)
  have H : ((workpiecelaw01_sane.f k).bind fun t157 => (if 0 ≤ (mn (a1.size : Int) 300) then (if (mn (a1.size : Int) 300) ≤ (a1.size : Int) then ((workpiecelaw01_NumberFrom.f a0).bind fun t158 => ((some (([a0, t158] : List Int) : List Int)).bind fun y159 => (workpiecelaw01_WireMatchesReference.l0 k a2 t157 (a1.extract 0 ((mn (a1.size : Int) 300) : Int).toNat) y159 (y159.length : Int) 0))) else (none)) else (none))) = some r := h
  clear h
  replace H := Option.bind_eq_some_iff.mp H
  obtain ⟨t157, A40, H⟩ := H
  replace H : (if 0 ≤ (mn (a1.size : Int) 300) then (if (mn (a1.size : Int) 300) ≤ (a1.size : Int) then ((workpiecelaw01_NumberFrom.f a0).bind fun t158 => ((some (([a0, t158] : List Int) : List Int)).bind fun y159 => (workpiecelaw01_WireMatchesReference.l0 k a2 t157 (a1.extract 0 ((mn (a1.size : Int) 300) : Int).toNat) y159 (y159.length : Int) 0))) else (none)) else (none)) = some r := H
  have A4 := Aside0.mk A40
  clear A40
  obtain ⟨ji5, hji5⟩ : ∃ j_ : Int, (mn (a1.size : Int) 300) = j_ := ⟨_, rfl⟩
  replace H : (if 0 ≤ (ji5) then (if (ji5) ≤ (a1.size : Int) then ((workpiecelaw01_NumberFrom.f a0).bind fun t158 => ((some (([a0, t158] : List Int) : List Int)).bind fun y159 => (workpiecelaw01_WireMatchesReference.l0 k a2 t157 (a1.extract 0 ((ji5) : Int).toNat) y159 (y159.length : Int) 0))) else (none)) else (none)) = some r := by first | (rw [hji5] at H; exact H) | (simp only [hji5] at H ⊢; exact H)
  (try rw [hji5] at A4)
  (try (have hji5h : ji5 ≤ 300 := by (rw [← hji5]; unfold mn; (repeat' split) <;> omega)))
  (try (have hji5g : ji5 ≤ 64 := by omega))
  (try (have hji5l : 0 ≤ ji5 := by (rw [← hji5]; unfold mn; (repeat' split) <;> omega)))
  (try (have hji5m : 0 ≤ ji5 := by omega))
  have hji5_ : (if 300 < (a1.size : Int) then 300 else (a1.size : Int)) = ji5 := hji5
  by_cases c6 : 0 ≤ (ji5)
  · rw [if_pos c6] at H
    have c6b0 := eq_true c6
    have c6b1 : decide (0 ≤ (ji5)) = true := decide_eq_true c6
    clear c6
    by_cases c7 : (ji5) ≤ (a1.size : Int)
    · rw [if_pos c7] at H
      have c7b0 := eq_true c7
      have c7b1 : decide ((ji5) ≤ (a1.size : Int)) = true := decide_eq_true c7
      clear c7
      replace H := Option.bind_eq_some_iff.mp H
      obtain ⟨t158, A80, H⟩ := H
      replace H : ((some (([a0, t158] : List Int) : List Int)).bind fun y159 => (workpiecelaw01_WireMatchesReference.l0 k a2 t157 (a1.extract 0 ((ji5) : Int).toNat) y159 (y159.length : Int) 0)) = some r := H
      have A8 := Aside0.mk A80
      clear A80
      obtain ⟨y159, hy159⟩ : ∃ y_ : List Int, y_ = (([a0, t158] : List Int)) := ⟨_, rfl⟩
      replace H : (workpiecelaw01_WireMatchesReference.l0 k a2 t157 (a1.extract 0 ((ji5) : Int).toNat) y159 (y159.length : Int) 0) = some r := by first | (rw [hy159]; with_reducible exact H) | (have H2_ := (Option.bind_some _ _).symm.trans H; rw [hy159]; with_reducible exact H2_) | (have H2_ := (Option.bind_some _ _).symm.trans H; with_reducible exact H2_) | with_reducible exact H | (rw [hy159]; exact H) | exact H
      have Ny159 := Aside0.mk hy159
      clear hy159
      have H' := Aside0.mk H
      clear H
      go_enter Tryd.func3, Tryd.ntmps3
      go_wp2_with (first | ((with_reducible refine gate_callee (f := 10) rfl ?_); refine goesL_ (some 33) rfl rfl Tryd.func10 (by kernel_rfl) rfl #[] rfl (by (try simp only [List.map_toArray, List.map_cons, List.map_nil]); first | done | rfl | (simp only [List.length_drop, List.length_take]; rfl)) ?_; (with_reducible refine (workpiecelaw01_sane.calls k  t157 _ A4.out (sane_is A4.out) ?hNib).mono ?_); (case hNib => exact ⟨nib_below hN.out (by repeat (first | (with_reducible first | exact HB.out | apply below_alloc | apply pw_below_drewN | apply below_drew1) | exact HB.out))⟩); rintro e w9 ⟨rfl, hb⟩; refine ⟨_, rfl, ?_⟩; have n0_ := Aside0.mk (below_step (by repeat (first | (with_reducible first | exact HB.out | apply below_alloc | apply pw_below_drewN | apply below_drew1) | exact HB.out)) hb); clear HB; have HB := n0_; clear n0_; (try clear hb); (try clear hb2); (try clear hk); (try clear hi)) | ((with_reducible refine gate_callee (f := 11) rfl ?_); refine goesL_ (some 41) rfl rfl Tryd.func11 (by kernel_rfl) rfl #[.int .i64 a0] rfl (by (try simp only [List.map_toArray, List.map_cons, List.map_nil]); first | done | rfl | (simp only [List.length_drop, List.length_take]; rfl)) ?_; (with_reducible refine (workpiecelaw01_NumberFrom.calls a0 t158 _ A8.out).mono ?_); rintro e w10 ⟨rfl, hb⟩; refine ⟨_, rfl, ?_⟩; have n0_ := Aside0.mk (below_step (by repeat (first | (with_reducible first | exact HB.out | apply below_alloc | apply pw_below_drewN | apply below_drew1) | exact HB.out)) hb); clear HB; have HB := n0_; clear n0_; (try clear hb); (try clear hb2); (try clear hk); (try clear hi)) | ((with_reducible refine gate_dst (N := 42) rfl ?_); refine Kd.R_lit (Kd.int .i64) _ 3 ?hg (N := 42) ?hd (xs := ([a0, t158] : List Int)) (inner := [.int .i64 a0, .int .i64 t158]) (ok := fun _ => True) (okp := fun _ => True) ?hr ?hp (fun _ hk => hk) trivial (Below.refl _ _) (Nat.le_refl _) (by simp) ?_; (case hd => rfl); (case hg => rfl); (case hr => first | (go_simp; done) | (go_simp; rfl)); (case hp => exact (Reps.one (show Kd.M (Kd.int .i64) _ _ _ a0 [.int .i64 a0] from rfl) (Reps.one (show Kd.M (Kd.int .i64) _ _ _ t158 [.int .i64 t158] from rfl) (Reps.none _ _)))); intro v160 w11 ho12 hb hg_ hnew_; clear hg_ hnew_; (first | rw [← Ny159.out] at ho12 | (simp only [Int.reduceToNat] at ho12; rw [← Ny159.out] at ho12)); have n0_ := Aside0.mk (Kd.R_lower ho12 (below_size (by repeat (first | (with_reducible first | exact HB.out | apply below_alloc | apply pw_below_drewN | apply below_drew1) | exact HB.out)))); have n1_ := Aside0.mk (below_step (by repeat (first | (with_reducible first | exact HB.out | apply below_alloc | apply pw_below_drewN | apply below_drew1) | exact HB.out)) hb); clear HB; have HO161 := n0_; have HB := n1_; clear n0_ n1_; clear hb ho12; obtain ⟨Ao13, co13, eo13⟩ := Kd.R_slice HO161.out; subst eo13))
      go_loopg [44] k (fun kq v44 w' => ∃ (x44_1 : Int), v44 = .int .i64 x44_1 ∧ Aside0 (workpiecelaw01_WireMatchesReference.l0 kq a2 t157 (a1.extract 0 ((ji5) : Int).toNat) y159 (y159.length : Int) x44_1 = some r) ∧ Aside0 (kq ≤ k) ∧ Aside0 (Kd.R (Kd.int .i64) 3 w' w.heap.size (fun _ => True) (.slice Ao13 y159.length co13) y159) ∧ Aside0 (Below w.heap.size w w'))
      case atStart => exact ⟨(0), (by first | rfl | (simp; done) | (simp [*]; done)), H', ⟨Nat.le_refl _⟩, ⟨by (with_reducible repeat (first | apply Kd.R_alloc | apply Kd.R_drewN | apply Kd.R_drew)); exact HO161.out⟩, ⟨by repeat (first | (with_reducible first | exact HB.out | apply below_alloc | apply pw_below_drewN | apply below_drew1) | exact HB.out)⟩⟩
      case round =>
        clear H'
        try clear c1
        try clear p2
        try clear c3
        try clear c6
        try clear c6b0
        try clear c6b1
        try clear c7
        try clear c7b0
        try clear c7b1
        try clear c10
        try clear c11
        obtain ⟨x44_1, rfl, HA, HK1, HO_42, HB⟩ := hrel
        cases gk with
        | zero => exact absurd HA.out (by simp [workpiecelaw01_WireMatchesReference.l0])
        | succ k1 =>
          have H := HA.out
          clear HA
          simp only [workpiecelaw01_WireMatchesReference.l0] at H
          by_cases c14 : x44_1 < (y159.length : Int)
          · rw [if_pos c14] at H
            have c14b0 : decide (x44_1 < (y159.length : Int)) = true := decide_eq_true c14
            clear c14
            by_cases c15 : 0 ≤ x44_1
            · rw [if_pos c15] at H
              have c15b0 : decide (0 ≤ x44_1) = true := decide_eq_true c15
              clear c15
              by_cases c16 : x44_1 < (y159.length : Int)
              · rw [if_pos c16] at H
                have c16b0 : decide (x44_1 < (y159.length : Int)) = true := decide_eq_true c16
                clear c16
                replace H := Option.bind_eq_some_iff.mp H
                obtain ⟨⟨t163, t164⟩, A170, H⟩ := H
                replace H : ((workpieceref01_PutInt.f k1 (rd y159 x44_1)).bind fun bt165 => (if t163.toList = bt165.1.toList then (if t164 = bt165.2 then (workpiecelaw01_WireMatchesReference.l0 k1 a2 t157 (a1.extract 0 ((ji5) : Int).toNat) y159 (y159.length : Int) (wrap64 (x44_1 + 1))) else (some false)) else (some false))) = some r := H
                have A17 := Aside0.mk A170
                clear A170
                replace H := Option.bind_eq_some_iff.mp H
                obtain ⟨⟨t165, t166⟩, A180, H⟩ := H
                replace H : (if t163.toList = t165.toList then (if t164 = t166 then (workpiecelaw01_WireMatchesReference.l0 k1 a2 t157 (a1.extract 0 ((ji5) : Int).toNat) y159 (y159.length : Int) (wrap64 (x44_1 + 1))) else (some false)) else (some false)) = some r := H
                have A18 := Aside0.mk A180
                clear A180
                by_cases c19 : t163.toList = t165.toList
                · rw [if_pos c19] at H
                  have c19b0 : (t163.toList == t165.toList) = true := beq_iff_eq.mpr c19
                  have c19b1 : (t163.toList != t165.toList) = false := bne_eq_false_iff_eq.mpr c19
                  clear c19
                  by_cases c20 : t164 = t166
                  · rw [if_pos c20] at H
                    have c20b0 : (t164 == t166) = true := beq_iff_eq.mpr c20
                    have c20b1 : (t164 != t166) = false := bne_eq_false_iff_eq.mpr c20
                    clear c20
                    have H' := Aside0.mk H
                    clear H
                    have p162 : 0 ≤ (x44_1 : Int) := of_decide_eq_true (by first | (with_reducible assumption) | assumption)
                    have q162 : x44_1 < (y159.length : Int) := of_decide_eq_true (by first | (with_reducible assumption) | assumption)
                    obtain ⟨ad162, e162, hx162_0⟩ := Kd.at_int (Kd.R_reads' HO_42.out).2.2 x44_1 p162 q162
                    cases e162
                    replace p162 := eq_true p162
                    replace q162 := eq_true q162
                    go_wp2_with (first | ((with_reducible refine gate_callee (f := 12) rfl ?_); refine goesL_ (some 50) rfl rfl Tryd.func12 (by kernel_rfl) rfl #[.int .i64 (rd y159 x44_1)] rfl (by (try simp only [List.map_toArray, List.map_cons, List.map_nil]); first | done | rfl | (simp only [List.length_drop, List.length_take]; rfl)) ?_; (with_reducible refine (wire_PutInt.calls (rd y159 x44_1) t163 t164 _ A17.out).mono ?_); rintro e w21 ⟨rfl, hb⟩; refine ⟨_, rfl, ?_⟩; have n0_ := Aside0.mk (Kd.R_below (by (with_reducible repeat (first | apply Kd.R_alloc | apply Kd.R_drewN | apply Kd.R_drew)); exact HO_42.out) hb); have n1_ := Aside0.mk (below_step (by repeat (first | (with_reducible first | exact HB.out | apply below_alloc | apply pw_below_drewN | apply below_drew1) | exact HB.out)) hb); clear HO_42; clear HB; have HO_42 := n0_; have HB := n1_; clear n0_ n1_; (try clear hb); (try clear hb2); (try clear hk); (try clear hi)) | ((with_reducible refine gate_callee (f := 13) rfl ?_); refine goesL_ (some 55) rfl rfl Tryd.func13 (by kernel_rfl) rfl #[.int .i64 (rd y159 x44_1)] rfl (by (try simp only [List.map_toArray, List.map_cons, List.map_nil]); first | done | rfl | (simp only [List.length_drop, List.length_take]; rfl)) ?_; (with_reducible refine (workpieceref01_PutInt.calls k1 (rd y159 x44_1) t165 t166 _ A18.out).mono ?_); rintro e w22 ⟨rfl, hb⟩; refine ⟨_, rfl, ?_⟩; have n0_ := Aside0.mk (Kd.R_below (by (with_reducible repeat (first | apply Kd.R_alloc | apply Kd.R_drewN | apply Kd.R_drew)); exact HO_42.out) hb); have n1_ := Aside0.mk (below_step (by repeat (first | (with_reducible first | exact HB.out | apply below_alloc | apply pw_below_drewN | apply below_drew1) | exact HB.out)) hb); clear HO_42; clear HB; have HO_42 := n0_; have HB := n1_; clear n0_ n1_; (try clear hb); (try clear hb2); (try clear hk); (try clear hi)))
                    go_roundg k1
                    case measure => have := HK1.out; omega
                    case rel => exact ⟨(wrap64 (x44_1 + 1)), (by first | rfl | (simp; done) | (simp [*]; done)), H', ⟨by have := HK1.out; omega⟩, ⟨by (with_reducible repeat (first | apply Kd.R_alloc | apply Kd.R_drewN | apply Kd.R_drew)); exact HO_42.out⟩, ⟨by repeat (first | (with_reducible first | exact HB.out | apply below_alloc | apply pw_below_drewN | apply below_drew1) | exact HB.out)⟩⟩
                  · rw [if_neg c20] at H
                    have c20b0 : (t164 == t166) = false := beq_eq_false_iff_ne.mpr c20
                    have c20b1 : (t164 != t166) = true := bne_iff_ne.mpr c20
                    first
                    | exact absurd ((Option.some.inj H).trans hr) (by decide)
                    | (clear hr
                       obtain rfl := Option.some.inj H
                       have p162 : 0 ≤ (x44_1 : Int) := of_decide_eq_true (by first | (with_reducible assumption) | assumption)
                       have q162 : x44_1 < (y159.length : Int) := of_decide_eq_true (by first | (with_reducible assumption) | assumption)
                       obtain ⟨ad162, e162, hx162_0⟩ := Kd.at_int (Kd.R_reads' HO_42.out).2.2 x44_1 p162 q162
                       cases e162
                       replace p162 := eq_true p162
                       replace q162 := eq_true q162
                       go_wp2_with (first | ((with_reducible refine gate_callee (f := 12) rfl ?_); refine goesL_ (some 50) rfl rfl Tryd.func12 (by kernel_rfl) rfl #[.int .i64 (rd y159 x44_1)] rfl (by (try simp only [List.map_toArray, List.map_cons, List.map_nil]); first | done | rfl | (simp only [List.length_drop, List.length_take]; rfl)) ?_; (with_reducible refine (wire_PutInt.calls (rd y159 x44_1) t163 t164 _ A17.out).mono ?_); rintro e w23 ⟨rfl, hb⟩; refine ⟨_, rfl, ?_⟩; have n0_ := Aside0.mk (Kd.R_below (by (with_reducible repeat (first | apply Kd.R_alloc | apply Kd.R_drewN | apply Kd.R_drew)); exact HO_42.out) hb); have n1_ := Aside0.mk (below_step (by repeat (first | (with_reducible first | exact HB.out | apply below_alloc | apply pw_below_drewN | apply below_drew1) | exact HB.out)) hb); clear HO_42; clear HB; have HO_42 := n0_; have HB := n1_; clear n0_ n1_; (try clear hb); (try clear hb2); (try clear hk); (try clear hi)) | ((with_reducible refine gate_callee (f := 13) rfl ?_); refine goesL_ (some 55) rfl rfl Tryd.func13 (by kernel_rfl) rfl #[.int .i64 (rd y159 x44_1)] rfl (by (try simp only [List.map_toArray, List.map_cons, List.map_nil]); first | done | rfl | (simp only [List.length_drop, List.length_take]; rfl)) ?_; (with_reducible refine (workpieceref01_PutInt.calls k1 (rd y159 x44_1) t165 t166 _ A18.out).mono ?_); rintro e w24 ⟨rfl, hb⟩; refine ⟨_, rfl, ?_⟩; have n0_ := Aside0.mk (Kd.R_below (by (with_reducible repeat (first | apply Kd.R_alloc | apply Kd.R_drewN | apply Kd.R_drew)); exact HO_42.out) hb); have n1_ := Aside0.mk (below_step (by repeat (first | (with_reducible first | exact HB.out | apply below_alloc | apply pw_below_drewN | apply below_drew1) | exact HB.out)) hb); clear HO_42; clear HB; have HO_42 := n0_; have HB := n1_; clear n0_ n1_; (try clear hb); (try clear hb2); (try clear hk); (try clear hi)))
                       go_ret
                       exact ⟨by first | rfl | (simp [errW_none, errW_some] <;> rfl) | (simp only [← hji5]; first | rfl | (simp [errW_none, errW_some] <;> rfl)) | (simp [*, errW_none, errW_some] <;> rfl), by repeat (first | (with_reducible first | exact HB.out | apply below_alloc | apply pw_below_drewN | apply below_drew1) | exact HB.out)⟩)
                · rw [if_neg c19] at H
                  have c19b0 : (t163.toList == t165.toList) = false := beq_eq_false_iff_ne.mpr c19
                  have c19b1 : (t163.toList != t165.toList) = true := bne_iff_ne.mpr c19
                  first
                  | exact absurd ((Option.some.inj H).trans hr) (by decide)
                  | (clear hr
                     obtain rfl := Option.some.inj H
                     have p162 : 0 ≤ (x44_1 : Int) := of_decide_eq_true (by first | (with_reducible assumption) | assumption)
                     have q162 : x44_1 < (y159.length : Int) := of_decide_eq_true (by first | (with_reducible assumption) | assumption)
                     obtain ⟨ad162, e162, hx162_0⟩ := Kd.at_int (Kd.R_reads' HO_42.out).2.2 x44_1 p162 q162
                     cases e162
                     replace p162 := eq_true p162
                     replace q162 := eq_true q162
                     go_wp2_with (first | ((with_reducible refine gate_callee (f := 12) rfl ?_); refine goesL_ (some 50) rfl rfl Tryd.func12 (by kernel_rfl) rfl #[.int .i64 (rd y159 x44_1)] rfl (by (try simp only [List.map_toArray, List.map_cons, List.map_nil]); first | done | rfl | (simp only [List.length_drop, List.length_take]; rfl)) ?_; (with_reducible refine (wire_PutInt.calls (rd y159 x44_1) t163 t164 _ A17.out).mono ?_); rintro e w25 ⟨rfl, hb⟩; refine ⟨_, rfl, ?_⟩; have n0_ := Aside0.mk (Kd.R_below (by (with_reducible repeat (first | apply Kd.R_alloc | apply Kd.R_drewN | apply Kd.R_drew)); exact HO_42.out) hb); have n1_ := Aside0.mk (below_step (by repeat (first | (with_reducible first | exact HB.out | apply below_alloc | apply pw_below_drewN | apply below_drew1) | exact HB.out)) hb); clear HO_42; clear HB; have HO_42 := n0_; have HB := n1_; clear n0_ n1_; (try clear hb); (try clear hb2); (try clear hk); (try clear hi)) | ((with_reducible refine gate_callee (f := 13) rfl ?_); refine goesL_ (some 55) rfl rfl Tryd.func13 (by kernel_rfl) rfl #[.int .i64 (rd y159 x44_1)] rfl (by (try simp only [List.map_toArray, List.map_cons, List.map_nil]); first | done | rfl | (simp only [List.length_drop, List.length_take]; rfl)) ?_; (with_reducible refine (workpieceref01_PutInt.calls k1 (rd y159 x44_1) t165 t166 _ A18.out).mono ?_); rintro e w26 ⟨rfl, hb⟩; refine ⟨_, rfl, ?_⟩; have n0_ := Aside0.mk (Kd.R_below (by (with_reducible repeat (first | apply Kd.R_alloc | apply Kd.R_drewN | apply Kd.R_drew)); exact HO_42.out) hb); have n1_ := Aside0.mk (below_step (by repeat (first | (with_reducible first | exact HB.out | apply below_alloc | apply pw_below_drewN | apply below_drew1) | exact HB.out)) hb); clear HO_42; clear HB; have HO_42 := n0_; have HB := n1_; clear n0_ n1_; (try clear hb); (try clear hb2); (try clear hk); (try clear hi)))
                     go_ret
                     exact ⟨by first | rfl | (simp [errW_none, errW_some] <;> rfl) | (simp only [← hji5]; first | rfl | (simp [errW_none, errW_some] <;> rfl)) | (simp [*, errW_none, errW_some] <;> rfl), by repeat (first | (with_reducible first | exact HB.out | apply below_alloc | apply pw_below_drewN | apply below_drew1) | exact HB.out)⟩)
              · rw [if_neg c16] at H
                exact absurd H (by simp)
            · rw [if_neg c15] at H
              exact absurd H (by simp)
          · rw [if_neg c14] at H
            have c14b0 : decide (x44_1 < (y159.length : Int)) = false := decide_eq_false c14
            clear c14
            replace H := Option.bind_eq_some_iff.mp H
            obtain ⟨t167, A270, H⟩ := H
            replace H : ((some (([a2, t167] : List Int) : List Int)).bind fun y168 => (workpiecelaw01_WireMatchesReference.l1 k1 t157 (a1.extract 0 ((ji5) : Int).toNat) y168 (y168.length : Int) 0)) = some r := H
            have A27 := Aside0.mk A270
            clear A270
            obtain ⟨y168, hy168⟩ : ∃ y_ : List Int, y_ = (([a2, t167] : List Int)) := ⟨_, rfl⟩
            replace H : (workpiecelaw01_WireMatchesReference.l1 k1 t157 (a1.extract 0 ((ji5) : Int).toNat) y168 (y168.length : Int) 0) = some r := by first | (rw [hy168]; with_reducible exact H) | (have H2_ := (Option.bind_some _ _).symm.trans H; rw [hy168]; with_reducible exact H2_) | (have H2_ := (Option.bind_some _ _).symm.trans H; with_reducible exact H2_) | with_reducible exact H | (rw [hy168]; exact H) | exact H
            have Ny168 := Aside0.mk hy168
            clear hy168
            have H' := Aside0.mk H
            clear H
            go_wp2_with (first | ((with_reducible refine gate_callee (f := 14) rfl ?_); refine goesL_ (some 72) rfl rfl Tryd.func14 (by kernel_rfl) rfl #[.int .i64 a2, .int .i64 (((min (ji5 : Int).toNat a1.size : Nat) : Int) + 2)] rfl (by (try simp only [List.map_toArray, List.map_cons, List.map_nil]); first | done | (simp only [hji5]; rfl) | rfl | (simp only [List.length_drop, List.length_take]; rfl)) ?_; (with_reducible refine (workpiecelaw01_pick.calls a2 (((min (ji5 : Int).toNat a1.size : Nat) : Int) + 2) t167 _ (pick_to (by rw [ByteArray.size_extract, Nat.sub_zero]; exact (IntWalk.wrap64_in _ ⟨by omega, by omega⟩).symm) A27.out)).mono ?_); rintro e w' ⟨rfl, ⟨nd, rfl⟩⟩; refine ⟨_, rfl, ?_⟩) | ((with_reducible refine gate_dst (N := 73) rfl ?_); refine Kd.R_lit (Kd.int .i64) _ 3 ?hg (N := 73) ?hd (xs := ([a2, t167] : List Int)) (inner := [.int .i64 a2, .int .i64 t167]) (ok := fun _ => True) (okp := fun _ => True) ?hr ?hp (fun _ hk => hk) trivial (Below.refl _ _) (Nat.le_refl _) (by simp) ?_; (case hd => rfl); (case hg => rfl); (case hr => first | (go_simp; done) | (go_simp; rfl)); (case hp => exact (Reps.one (show Kd.M (Kd.int .i64) _ _ _ a2 [.int .i64 a2] from rfl) (Reps.one (show Kd.M (Kd.int .i64) _ _ _ t167 [.int .i64 t167] from rfl) (Reps.none _ _)))); intro v169 w28 ho29 hb hg_ hnew_; clear hg_ hnew_; (first | rw [← Ny168.out] at ho29 | (simp only [Int.reduceToNat] at ho29; rw [← Ny168.out] at ho29)); have n0_ := Aside0.mk (Kd.R_elder' (by (with_reducible repeat (first | apply Kd.R_alloc | apply Kd.R_drewN | apply Kd.R_drew)); exact HO_42.out) (Kd.R_base ho29) hb); have n1_ := Aside0.mk (Kd.R_lower (Kd.R_new' ho29 (Kd.R_lt (by (with_reducible repeat (first | apply Kd.R_alloc | apply Kd.R_drewN | apply Kd.R_drew)); exact HO_42.out))) (below_size (by repeat (first | (with_reducible first | exact HB.out | apply below_alloc | apply pw_below_drewN | apply below_drew1) | exact HB.out)))); have n2_ := Aside0.mk (below_step (by repeat (first | (with_reducible first | exact HB.out | apply below_alloc | apply pw_below_drewN | apply below_drew1) | exact HB.out)) hb); clear HO_42; clear HB; have HO_42 := n0_; have HO170 := n1_; have HB := n2_; clear n0_ n1_ n2_; clear hb ho29; obtain ⟨Ao30, co30, eo30⟩ := Kd.R_slice HO170.out; subst eo30))
            go_loopg [75] k1 (fun kq v75 w' => ∃ (x75_2 : Int), v75 = .int .i64 x75_2 ∧ Aside0 (workpiecelaw01_WireMatchesReference.l1 kq t157 (a1.extract 0 ((ji5) : Int).toNat) y168 (y168.length : Int) x75_2 = some r) ∧ Aside0 (kq ≤ k1) ∧ Aside0 (Kd.R (Kd.int .i64) 3 w' w.heap.size (fun _ => True) (.slice Ao30 y168.length co30) y168) ∧ Aside0 (Below w.heap.size w w'))
            case atStart => exact ⟨(0), (by first | rfl | (simp; done) | (simp [*]; done)), H', ⟨Nat.le_refl _⟩, ⟨by (with_reducible repeat (first | apply Kd.R_alloc | apply Kd.R_drewN | apply Kd.R_drew)); exact Kd.R_mono HO170.out (fun _ hk => trivial)⟩, ⟨by repeat (first | (with_reducible first | exact HB.out | apply below_alloc | apply pw_below_drewN | apply below_drew1) | exact HB.out)⟩⟩
            case round =>
              clear H'
              try clear c1
              try clear p1
              try clear q1
              try clear hx1
              try clear c2
              try clear p2
              try clear c3
              try clear c6
              try clear c6b0
              try clear c6b1
              try clear p6
              try clear c7
              try clear c7b0
              try clear c7b1
              try clear c10
              try clear c11
              try clear c12
              try clear c13
              try clear c14
              try clear c14b0
              try clear c15
              try clear c15b0
              try clear c16
              try clear c16b0
              try clear p16
              try clear q16
              try clear hx16
              try clear c19
              try clear c19b0
              try clear c19b1
              try clear c20
              try clear c20b0
              try clear c20b1
              try clear hx162_0
              try clear p162
              try clear p2
              try clear q162
              obtain ⟨x75_2, rfl, HA, HK2, HO_73, HB⟩ := hrel
              cases gk with
              | zero => exact absurd HA.out (by simp [workpiecelaw01_WireMatchesReference.l1])
              | succ k2 =>
                have H := HA.out
                clear HA
                simp only [workpiecelaw01_WireMatchesReference.l1] at H
                by_cases c31 : x75_2 < (y168.length : Int)
                · rw [if_pos c31] at H
                  have c31b0 : decide (x75_2 < (y168.length : Int)) = true := decide_eq_true c31
                  clear c31
                  by_cases c32 : 0 ≤ x75_2
                  · rw [if_pos c32] at H
                    have c32b0 : decide (0 ≤ x75_2) = true := decide_eq_true c32
                    clear c32
                    by_cases c33 : x75_2 < (y168.length : Int)
                    · rw [if_pos c33] at H
                      have c33b0 : decide (x75_2 < (y168.length : Int)) = true := decide_eq_true c33
                      clear c33
                      replace H := Option.bind_eq_some_iff.mp H
                      obtain ⟨⟨t172, t173, t174⟩, A340, H⟩ := H
                      replace H : ((workpieceref01_Int.f k2 (a1.extract 0 ((ji5) : Int).toNat) (rd y168 x75_2)).bind fun bt175 => ((wire_String.f k2 (a1.extract 0 ((ji5) : Int).toNat) (rd y168 x75_2)).bind fun bt178 => ((workpieceref01_String.f k2 (a1.extract 0 ((ji5) : Int).toNat) (rd y168 x75_2)).bind fun bt181 => (if t172 = bt175.1 then (if t173 = bt175.2.1 then (if t174 = bt175.2.2 then (if bt178.1.toList = bt181.1.toList then (if bt178.2.1 = bt181.2.1 then (if bt178.2.2 = bt181.2.2 then (workpiecelaw01_WireMatchesReference.l1 k2 t157 (a1.extract 0 ((ji5) : Int).toNat) y168 (y168.length : Int) (wrap64 (x75_2 + 1))) else (some false)) else (some false)) else (some false)) else (some false)) else (some false)) else (some false))))) = some r := H
                      have A34 := Aside0.mk A340
                      clear A340
                      replace H := Option.bind_eq_some_iff.mp H
                      obtain ⟨⟨t175, t176, t177⟩, A350, H⟩ := H
                      replace H : ((wire_String.f k2 (a1.extract 0 ((ji5) : Int).toNat) (rd y168 x75_2)).bind fun bt178 => ((workpieceref01_String.f k2 (a1.extract 0 ((ji5) : Int).toNat) (rd y168 x75_2)).bind fun bt181 => (if t172 = t175 then (if t173 = t176 then (if t174 = t177 then (if bt178.1.toList = bt181.1.toList then (if bt178.2.1 = bt181.2.1 then (if bt178.2.2 = bt181.2.2 then (workpiecelaw01_WireMatchesReference.l1 k2 t157 (a1.extract 0 ((ji5) : Int).toNat) y168 (y168.length : Int) (wrap64 (x75_2 + 1))) else (some false)) else (some false)) else (some false)) else (some false)) else (some false)) else (some false)))) = some r := H
                      have A35 := Aside0.mk A350
                      clear A350
                      replace H := Option.bind_eq_some_iff.mp H
                      obtain ⟨⟨t178, t179, t180⟩, A360, H⟩ := H
                      replace H : ((workpieceref01_String.f k2 (a1.extract 0 ((ji5) : Int).toNat) (rd y168 x75_2)).bind fun bt181 => (if t172 = t175 then (if t173 = t176 then (if t174 = t177 then (if t178.toList = bt181.1.toList then (if t179 = bt181.2.1 then (if t180 = bt181.2.2 then (workpiecelaw01_WireMatchesReference.l1 k2 t157 (a1.extract 0 ((ji5) : Int).toNat) y168 (y168.length : Int) (wrap64 (x75_2 + 1))) else (some false)) else (some false)) else (some false)) else (some false)) else (some false)) else (some false))) = some r := H
                      have A36 := Aside0.mk A360
                      clear A360
                      replace H := Option.bind_eq_some_iff.mp H
                      obtain ⟨⟨t181, t182, t183⟩, A370, H⟩ := H
                      replace H : (if t172 = t175 then (if t173 = t176 then (if t174 = t177 then (if t178.toList = t181.toList then (if t179 = t182 then (if t180 = t183 then (workpiecelaw01_WireMatchesReference.l1 k2 t157 (a1.extract 0 ((ji5) : Int).toNat) y168 (y168.length : Int) (wrap64 (x75_2 + 1))) else (some false)) else (some false)) else (some false)) else (some false)) else (some false)) else (some false)) = some r := H
                      have A37 := Aside0.mk A370
                      clear A370
                      by_cases c38 : t172 = t175
                      · rw [if_pos c38] at H
                        have c38b0 : (t172 == t175) = true := beq_iff_eq.mpr c38
                        have c38b1 : (t172 != t175) = false := bne_eq_false_iff_eq.mpr c38
                        clear c38
                        by_cases c39 : t173 = t176
                        · rw [if_pos c39] at H
                          have c39b0 : (t173 == t176) = true := beq_iff_eq.mpr c39
                          have c39b1 : (t173 != t176) = false := bne_eq_false_iff_eq.mpr c39
                          clear c39
                          by_cases c40 : t174 = t177
                          · rw [if_pos c40] at H
                            have c40b0 : (t174 == t177) = true := beq_iff_eq.mpr c40
                            have c40b1 : (t174 != t177) = false := bne_eq_false_iff_eq.mpr c40
                            clear c40
                            by_cases c41 : t178.toList = t181.toList
                            · rw [if_pos c41] at H
                              have c41b0 : (t178.toList == t181.toList) = true := beq_iff_eq.mpr c41
                              have c41b1 : (t178.toList != t181.toList) = false := bne_eq_false_iff_eq.mpr c41
                              clear c41
                              by_cases c42 : t179 = t182
                              · rw [if_pos c42] at H
                                have c42b0 : (t179 == t182) = true := beq_iff_eq.mpr c42
                                have c42b1 : (t179 != t182) = false := bne_eq_false_iff_eq.mpr c42
                                clear c42
                                by_cases c43 : t180 = t183
                                · rw [if_pos c43] at H
                                  have c43b0 : (t180 == t183) = true := beq_iff_eq.mpr c43
                                  have c43b1 : (t180 != t183) = false := bne_eq_false_iff_eq.mpr c43
                                  clear c43
                                  have H' := Aside0.mk H
                                  clear H
                                  have p171 : 0 ≤ (x75_2 : Int) := of_decide_eq_true (by first | (with_reducible assumption) | assumption)
                                  have q171 : x75_2 < (y168.length : Int) := of_decide_eq_true (by first | (with_reducible assumption) | assumption)
                                  obtain ⟨ad171, e171, hx171_0⟩ := Kd.at_int (Kd.R_reads' HO_73.out).2.2 x75_2 p171 q171
                                  cases e171
                                  replace p171 := eq_true p171
                                  replace q171 := eq_true q171
                                  go_wp2_with (first | ((with_reducible refine gate_callee (f := 15) rfl ?_); refine goesL_ (some 82) rfl rfl Tryd.func15 (by kernel_rfl) rfl #[.string (a1.extract 0 ((ji5) : Int).toNat), .int .i64 (rd y168 x75_2)] rfl (by (try simp only [List.map_toArray, List.map_cons, List.map_nil]); first | done | (simp only [hji5]; rfl) | rfl | (simp only [List.length_drop, List.length_take]; rfl)) ?_; (with_reducible refine (wire_Int.calls k2 (a1.extract 0 ((ji5) : Int).toNat) (rd y168 x75_2) t172 t173 t174 _ A34.out).mono ?_); rintro e w' ⟨rfl, ⟨nd, rfl⟩⟩; refine ⟨_, rfl, ?_⟩) | ((with_reducible refine gate_callee (f := 16) rfl ?_); refine goesL_ (some 89) rfl rfl Tryd.func16 (by kernel_rfl) rfl #[.string (a1.extract 0 ((ji5) : Int).toNat), .int .i64 (rd y168 x75_2)] rfl (by (try simp only [List.map_toArray, List.map_cons, List.map_nil]); first | done | (simp only [hji5]; rfl) | rfl | (simp only [List.length_drop, List.length_take]; rfl)) ?_; (with_reducible refine (workpieceref01_Int.calls k2 (a1.extract 0 ((ji5) : Int).toNat) (rd y168 x75_2) t175 t176 t177 _ A35.out).mono ?_); rintro e w44 ⟨rfl, hb⟩; refine ⟨_, rfl, ?_⟩; have n0_ := Aside0.mk (Kd.R_below (by (with_reducible repeat (first | apply Kd.R_alloc | apply Kd.R_drewN | apply Kd.R_drew)); exact HO_73.out) hb); have n1_ := Aside0.mk (below_step (by repeat (first | (with_reducible first | exact HB.out | apply below_alloc | apply pw_below_drewN | apply below_drew1) | exact HB.out)) hb); clear HO_73; clear HB; have HO_73 := n0_; have HB := n1_; clear n0_ n1_; (try clear hb); (try clear hb2); (try clear hk); (try clear hi)) | ((with_reducible refine gate_callee (f := 17) rfl ?_); refine goesL_ (some 96) rfl rfl Tryd.func17 (by kernel_rfl) rfl #[.string (a1.extract 0 ((ji5) : Int).toNat), .int .i64 (rd y168 x75_2)] rfl (by (try simp only [List.map_toArray, List.map_cons, List.map_nil]); first | done | (simp only [hji5]; rfl) | rfl | (simp only [List.length_drop, List.length_take]; rfl)) ?_; (with_reducible refine (wire_String.calls k2 (a1.extract 0 ((ji5) : Int).toNat) (rd y168 x75_2) t178 t179 t180 _ A36.out).mono ?_); rintro e w' ⟨rfl, ⟨nd, rfl⟩⟩; refine ⟨_, rfl, ?_⟩) | ((with_reducible refine gate_callee (f := 18) rfl ?_); refine goesL_ (some 103) rfl rfl Tryd.func18 (by kernel_rfl) rfl #[.string (a1.extract 0 ((ji5) : Int).toNat), .int .i64 (rd y168 x75_2)] rfl (by (try simp only [List.map_toArray, List.map_cons, List.map_nil]); first | done | (simp only [hji5]; rfl) | rfl | (simp only [List.length_drop, List.length_take]; rfl)) ?_; (with_reducible refine (workpieceref01_String.calls k2 (a1.extract 0 ((ji5) : Int).toNat) (rd y168 x75_2) t181 t182 t183 _ A37.out).mono ?_); rintro e w45 ⟨rfl, hb⟩; refine ⟨_, rfl, ?_⟩; have n0_ := Aside0.mk (Kd.R_below (by (with_reducible repeat (first | apply Kd.R_alloc | apply Kd.R_drewN | apply Kd.R_drew)); exact HO_73.out) hb); have n1_ := Aside0.mk (below_step (by repeat (first | (with_reducible first | exact HB.out | apply below_alloc | apply pw_below_drewN | apply below_drew1) | exact HB.out)) hb); clear HO_73; clear HB; have HO_73 := n0_; have HB := n1_; clear n0_ n1_; (try clear hb); (try clear hb2); (try clear hk); (try clear hi)))
                                  go_roundg k2
                                  case measure => have := HK1.out; have := HK2.out; omega
                                  case rel => exact ⟨(wrap64 (x75_2 + 1)), (by first | rfl | (simp; done) | (simp [*]; done)), H', ⟨by have := HK1.out; have := HK2.out; omega⟩, ⟨by (with_reducible repeat (first | apply Kd.R_alloc | apply Kd.R_drewN | apply Kd.R_drew)); exact HO_73.out⟩, ⟨by repeat (first | (with_reducible first | exact HB.out | apply below_alloc | apply pw_below_drewN | apply below_drew1) | exact HB.out)⟩⟩
                                · rw [if_neg c43] at H
                                  have c43b0 : (t180 == t183) = false := beq_eq_false_iff_ne.mpr c43
                                  have c43b1 : (t180 != t183) = true := bne_iff_ne.mpr c43
                                  first
                                  | exact absurd ((Option.some.inj H).trans hr) (by decide)
                                  | (clear hr
                                     obtain rfl := Option.some.inj H
                                     have p171 : 0 ≤ (x75_2 : Int) := of_decide_eq_true (by first | (with_reducible assumption) | assumption)
                                     have q171 : x75_2 < (y168.length : Int) := of_decide_eq_true (by first | (with_reducible assumption) | assumption)
                                     obtain ⟨ad171, e171, hx171_0⟩ := Kd.at_int (Kd.R_reads' HO_73.out).2.2 x75_2 p171 q171
                                     cases e171
                                     replace p171 := eq_true p171
                                     replace q171 := eq_true q171
                                     go_wp2_with (first | ((with_reducible refine gate_callee (f := 15) rfl ?_); refine goesL_ (some 82) rfl rfl Tryd.func15 (by kernel_rfl) rfl #[.string (a1.extract 0 ((ji5) : Int).toNat), .int .i64 (rd y168 x75_2)] rfl (by (try simp only [List.map_toArray, List.map_cons, List.map_nil]); first | done | (simp only [hji5]; rfl) | rfl | (simp only [List.length_drop, List.length_take]; rfl)) ?_; (with_reducible refine (wire_Int.calls k2 (a1.extract 0 ((ji5) : Int).toNat) (rd y168 x75_2) t172 t173 t174 _ A34.out).mono ?_); rintro e w' ⟨rfl, ⟨nd, rfl⟩⟩; refine ⟨_, rfl, ?_⟩) | ((with_reducible refine gate_callee (f := 16) rfl ?_); refine goesL_ (some 89) rfl rfl Tryd.func16 (by kernel_rfl) rfl #[.string (a1.extract 0 ((ji5) : Int).toNat), .int .i64 (rd y168 x75_2)] rfl (by (try simp only [List.map_toArray, List.map_cons, List.map_nil]); first | done | (simp only [hji5]; rfl) | rfl | (simp only [List.length_drop, List.length_take]; rfl)) ?_; (with_reducible refine (workpieceref01_Int.calls k2 (a1.extract 0 ((ji5) : Int).toNat) (rd y168 x75_2) t175 t176 t177 _ A35.out).mono ?_); rintro e w46 ⟨rfl, hb⟩; refine ⟨_, rfl, ?_⟩; have n0_ := Aside0.mk (Kd.R_below (by (with_reducible repeat (first | apply Kd.R_alloc | apply Kd.R_drewN | apply Kd.R_drew)); exact HO_73.out) hb); have n1_ := Aside0.mk (below_step (by repeat (first | (with_reducible first | exact HB.out | apply below_alloc | apply pw_below_drewN | apply below_drew1) | exact HB.out)) hb); clear HO_73; clear HB; have HO_73 := n0_; have HB := n1_; clear n0_ n1_; (try clear hb); (try clear hb2); (try clear hk); (try clear hi)) | ((with_reducible refine gate_callee (f := 17) rfl ?_); refine goesL_ (some 96) rfl rfl Tryd.func17 (by kernel_rfl) rfl #[.string (a1.extract 0 ((ji5) : Int).toNat), .int .i64 (rd y168 x75_2)] rfl (by (try simp only [List.map_toArray, List.map_cons, List.map_nil]); first | done | (simp only [hji5]; rfl) | rfl | (simp only [List.length_drop, List.length_take]; rfl)) ?_; (with_reducible refine (wire_String.calls k2 (a1.extract 0 ((ji5) : Int).toNat) (rd y168 x75_2) t178 t179 t180 _ A36.out).mono ?_); rintro e w' ⟨rfl, ⟨nd, rfl⟩⟩; refine ⟨_, rfl, ?_⟩) | ((with_reducible refine gate_callee (f := 18) rfl ?_); refine goesL_ (some 103) rfl rfl Tryd.func18 (by kernel_rfl) rfl #[.string (a1.extract 0 ((ji5) : Int).toNat), .int .i64 (rd y168 x75_2)] rfl (by (try simp only [List.map_toArray, List.map_cons, List.map_nil]); first | done | (simp only [hji5]; rfl) | rfl | (simp only [List.length_drop, List.length_take]; rfl)) ?_; (with_reducible refine (workpieceref01_String.calls k2 (a1.extract 0 ((ji5) : Int).toNat) (rd y168 x75_2) t181 t182 t183 _ A37.out).mono ?_); rintro e w47 ⟨rfl, hb⟩; refine ⟨_, rfl, ?_⟩; have n0_ := Aside0.mk (Kd.R_below (by (with_reducible repeat (first | apply Kd.R_alloc | apply Kd.R_drewN | apply Kd.R_drew)); exact HO_73.out) hb); have n1_ := Aside0.mk (below_step (by repeat (first | (with_reducible first | exact HB.out | apply below_alloc | apply pw_below_drewN | apply below_drew1) | exact HB.out)) hb); clear HO_73; clear HB; have HO_73 := n0_; have HB := n1_; clear n0_ n1_; (try clear hb); (try clear hb2); (try clear hk); (try clear hi)))
                                     go_ret
                                     exact ⟨by first | rfl | (simp [errW_none, errW_some] <;> rfl) | (simp only [← hji5]; first | rfl | (simp [errW_none, errW_some] <;> rfl)) | (simp [*, errW_none, errW_some] <;> rfl), by repeat (first | (with_reducible first | exact HB.out | apply below_alloc | apply pw_below_drewN | apply below_drew1) | exact HB.out)⟩)
                              · rw [if_neg c42] at H
                                have c42b0 : (t179 == t182) = false := beq_eq_false_iff_ne.mpr c42
                                have c42b1 : (t179 != t182) = true := bne_iff_ne.mpr c42
                                first
                                | exact absurd ((Option.some.inj H).trans hr) (by decide)
                                | (clear hr
                                   obtain rfl := Option.some.inj H
                                   have p171 : 0 ≤ (x75_2 : Int) := of_decide_eq_true (by first | (with_reducible assumption) | assumption)
                                   have q171 : x75_2 < (y168.length : Int) := of_decide_eq_true (by first | (with_reducible assumption) | assumption)
                                   obtain ⟨ad171, e171, hx171_0⟩ := Kd.at_int (Kd.R_reads' HO_73.out).2.2 x75_2 p171 q171
                                   cases e171
                                   replace p171 := eq_true p171
                                   replace q171 := eq_true q171
                                   go_wp2_with (first | ((with_reducible refine gate_callee (f := 15) rfl ?_); refine goesL_ (some 82) rfl rfl Tryd.func15 (by kernel_rfl) rfl #[.string (a1.extract 0 ((ji5) : Int).toNat), .int .i64 (rd y168 x75_2)] rfl (by (try simp only [List.map_toArray, List.map_cons, List.map_nil]); first | done | (simp only [hji5]; rfl) | rfl | (simp only [List.length_drop, List.length_take]; rfl)) ?_; (with_reducible refine (wire_Int.calls k2 (a1.extract 0 ((ji5) : Int).toNat) (rd y168 x75_2) t172 t173 t174 _ A34.out).mono ?_); rintro e w' ⟨rfl, ⟨nd, rfl⟩⟩; refine ⟨_, rfl, ?_⟩) | ((with_reducible refine gate_callee (f := 16) rfl ?_); refine goesL_ (some 89) rfl rfl Tryd.func16 (by kernel_rfl) rfl #[.string (a1.extract 0 ((ji5) : Int).toNat), .int .i64 (rd y168 x75_2)] rfl (by (try simp only [List.map_toArray, List.map_cons, List.map_nil]); first | done | (simp only [hji5]; rfl) | rfl | (simp only [List.length_drop, List.length_take]; rfl)) ?_; (with_reducible refine (workpieceref01_Int.calls k2 (a1.extract 0 ((ji5) : Int).toNat) (rd y168 x75_2) t175 t176 t177 _ A35.out).mono ?_); rintro e w48 ⟨rfl, hb⟩; refine ⟨_, rfl, ?_⟩; have n0_ := Aside0.mk (Kd.R_below (by (with_reducible repeat (first | apply Kd.R_alloc | apply Kd.R_drewN | apply Kd.R_drew)); exact HO_73.out) hb); have n1_ := Aside0.mk (below_step (by repeat (first | (with_reducible first | exact HB.out | apply below_alloc | apply pw_below_drewN | apply below_drew1) | exact HB.out)) hb); clear HO_73; clear HB; have HO_73 := n0_; have HB := n1_; clear n0_ n1_; (try clear hb); (try clear hb2); (try clear hk); (try clear hi)) | ((with_reducible refine gate_callee (f := 17) rfl ?_); refine goesL_ (some 96) rfl rfl Tryd.func17 (by kernel_rfl) rfl #[.string (a1.extract 0 ((ji5) : Int).toNat), .int .i64 (rd y168 x75_2)] rfl (by (try simp only [List.map_toArray, List.map_cons, List.map_nil]); first | done | (simp only [hji5]; rfl) | rfl | (simp only [List.length_drop, List.length_take]; rfl)) ?_; (with_reducible refine (wire_String.calls k2 (a1.extract 0 ((ji5) : Int).toNat) (rd y168 x75_2) t178 t179 t180 _ A36.out).mono ?_); rintro e w' ⟨rfl, ⟨nd, rfl⟩⟩; refine ⟨_, rfl, ?_⟩) | ((with_reducible refine gate_callee (f := 18) rfl ?_); refine goesL_ (some 103) rfl rfl Tryd.func18 (by kernel_rfl) rfl #[.string (a1.extract 0 ((ji5) : Int).toNat), .int .i64 (rd y168 x75_2)] rfl (by (try simp only [List.map_toArray, List.map_cons, List.map_nil]); first | done | (simp only [hji5]; rfl) | rfl | (simp only [List.length_drop, List.length_take]; rfl)) ?_; (with_reducible refine (workpieceref01_String.calls k2 (a1.extract 0 ((ji5) : Int).toNat) (rd y168 x75_2) t181 t182 t183 _ A37.out).mono ?_); rintro e w49 ⟨rfl, hb⟩; refine ⟨_, rfl, ?_⟩; have n0_ := Aside0.mk (Kd.R_below (by (with_reducible repeat (first | apply Kd.R_alloc | apply Kd.R_drewN | apply Kd.R_drew)); exact HO_73.out) hb); have n1_ := Aside0.mk (below_step (by repeat (first | (with_reducible first | exact HB.out | apply below_alloc | apply pw_below_drewN | apply below_drew1) | exact HB.out)) hb); clear HO_73; clear HB; have HO_73 := n0_; have HB := n1_; clear n0_ n1_; (try clear hb); (try clear hb2); (try clear hk); (try clear hi)))
                                   go_ret
                                   exact ⟨by first | rfl | (simp [errW_none, errW_some] <;> rfl) | (simp only [← hji5]; first | rfl | (simp [errW_none, errW_some] <;> rfl)) | (simp [*, errW_none, errW_some] <;> rfl), by repeat (first | (with_reducible first | exact HB.out | apply below_alloc | apply pw_below_drewN | apply below_drew1) | exact HB.out)⟩)
                            · rw [if_neg c41] at H
                              have c41b0 : (t178.toList == t181.toList) = false := beq_eq_false_iff_ne.mpr c41
                              have c41b1 : (t178.toList != t181.toList) = true := bne_iff_ne.mpr c41
                              first
                              | exact absurd ((Option.some.inj H).trans hr) (by decide)
                              | (clear hr
                                 obtain rfl := Option.some.inj H
                                 have p171 : 0 ≤ (x75_2 : Int) := of_decide_eq_true (by first | (with_reducible assumption) | assumption)
                                 have q171 : x75_2 < (y168.length : Int) := of_decide_eq_true (by first | (with_reducible assumption) | assumption)
                                 obtain ⟨ad171, e171, hx171_0⟩ := Kd.at_int (Kd.R_reads' HO_73.out).2.2 x75_2 p171 q171
                                 cases e171
                                 replace p171 := eq_true p171
                                 replace q171 := eq_true q171
                                 go_wp2_with (first | ((with_reducible refine gate_callee (f := 15) rfl ?_); refine goesL_ (some 82) rfl rfl Tryd.func15 (by kernel_rfl) rfl #[.string (a1.extract 0 ((ji5) : Int).toNat), .int .i64 (rd y168 x75_2)] rfl (by (try simp only [List.map_toArray, List.map_cons, List.map_nil]); first | done | (simp only [hji5]; rfl) | rfl | (simp only [List.length_drop, List.length_take]; rfl)) ?_; (with_reducible refine (wire_Int.calls k2 (a1.extract 0 ((ji5) : Int).toNat) (rd y168 x75_2) t172 t173 t174 _ A34.out).mono ?_); rintro e w' ⟨rfl, ⟨nd, rfl⟩⟩; refine ⟨_, rfl, ?_⟩) | ((with_reducible refine gate_callee (f := 16) rfl ?_); refine goesL_ (some 89) rfl rfl Tryd.func16 (by kernel_rfl) rfl #[.string (a1.extract 0 ((ji5) : Int).toNat), .int .i64 (rd y168 x75_2)] rfl (by (try simp only [List.map_toArray, List.map_cons, List.map_nil]); first | done | (simp only [hji5]; rfl) | rfl | (simp only [List.length_drop, List.length_take]; rfl)) ?_; (with_reducible refine (workpieceref01_Int.calls k2 (a1.extract 0 ((ji5) : Int).toNat) (rd y168 x75_2) t175 t176 t177 _ A35.out).mono ?_); rintro e w50 ⟨rfl, hb⟩; refine ⟨_, rfl, ?_⟩; have n0_ := Aside0.mk (Kd.R_below (by (with_reducible repeat (first | apply Kd.R_alloc | apply Kd.R_drewN | apply Kd.R_drew)); exact HO_73.out) hb); have n1_ := Aside0.mk (below_step (by repeat (first | (with_reducible first | exact HB.out | apply below_alloc | apply pw_below_drewN | apply below_drew1) | exact HB.out)) hb); clear HO_73; clear HB; have HO_73 := n0_; have HB := n1_; clear n0_ n1_; (try clear hb); (try clear hb2); (try clear hk); (try clear hi)) | ((with_reducible refine gate_callee (f := 17) rfl ?_); refine goesL_ (some 96) rfl rfl Tryd.func17 (by kernel_rfl) rfl #[.string (a1.extract 0 ((ji5) : Int).toNat), .int .i64 (rd y168 x75_2)] rfl (by (try simp only [List.map_toArray, List.map_cons, List.map_nil]); first | done | (simp only [hji5]; rfl) | rfl | (simp only [List.length_drop, List.length_take]; rfl)) ?_; (with_reducible refine (wire_String.calls k2 (a1.extract 0 ((ji5) : Int).toNat) (rd y168 x75_2) t178 t179 t180 _ A36.out).mono ?_); rintro e w' ⟨rfl, ⟨nd, rfl⟩⟩; refine ⟨_, rfl, ?_⟩) | ((with_reducible refine gate_callee (f := 18) rfl ?_); refine goesL_ (some 103) rfl rfl Tryd.func18 (by kernel_rfl) rfl #[.string (a1.extract 0 ((ji5) : Int).toNat), .int .i64 (rd y168 x75_2)] rfl (by (try simp only [List.map_toArray, List.map_cons, List.map_nil]); first | done | (simp only [hji5]; rfl) | rfl | (simp only [List.length_drop, List.length_take]; rfl)) ?_; (with_reducible refine (workpieceref01_String.calls k2 (a1.extract 0 ((ji5) : Int).toNat) (rd y168 x75_2) t181 t182 t183 _ A37.out).mono ?_); rintro e w51 ⟨rfl, hb⟩; refine ⟨_, rfl, ?_⟩; have n0_ := Aside0.mk (Kd.R_below (by (with_reducible repeat (first | apply Kd.R_alloc | apply Kd.R_drewN | apply Kd.R_drew)); exact HO_73.out) hb); have n1_ := Aside0.mk (below_step (by repeat (first | (with_reducible first | exact HB.out | apply below_alloc | apply pw_below_drewN | apply below_drew1) | exact HB.out)) hb); clear HO_73; clear HB; have HO_73 := n0_; have HB := n1_; clear n0_ n1_; (try clear hb); (try clear hb2); (try clear hk); (try clear hi)))
                                 go_ret
                                 exact ⟨by first | rfl | (simp [errW_none, errW_some] <;> rfl) | (simp only [← hji5]; first | rfl | (simp [errW_none, errW_some] <;> rfl)) | (simp [*, errW_none, errW_some] <;> rfl), by repeat (first | (with_reducible first | exact HB.out | apply below_alloc | apply pw_below_drewN | apply below_drew1) | exact HB.out)⟩)
                          · rw [if_neg c40] at H
                            have c40b0 : (t174 == t177) = false := beq_eq_false_iff_ne.mpr c40
                            have c40b1 : (t174 != t177) = true := bne_iff_ne.mpr c40
                            first
                            | exact absurd ((Option.some.inj H).trans hr) (by decide)
                            | (clear hr
                               obtain rfl := Option.some.inj H
                               have p171 : 0 ≤ (x75_2 : Int) := of_decide_eq_true (by first | (with_reducible assumption) | assumption)
                               have q171 : x75_2 < (y168.length : Int) := of_decide_eq_true (by first | (with_reducible assumption) | assumption)
                               obtain ⟨ad171, e171, hx171_0⟩ := Kd.at_int (Kd.R_reads' HO_73.out).2.2 x75_2 p171 q171
                               cases e171
                               replace p171 := eq_true p171
                               replace q171 := eq_true q171
                               go_wp2_with (first | ((with_reducible refine gate_callee (f := 15) rfl ?_); refine goesL_ (some 82) rfl rfl Tryd.func15 (by kernel_rfl) rfl #[.string (a1.extract 0 ((ji5) : Int).toNat), .int .i64 (rd y168 x75_2)] rfl (by (try simp only [List.map_toArray, List.map_cons, List.map_nil]); first | done | (simp only [hji5]; rfl) | rfl | (simp only [List.length_drop, List.length_take]; rfl)) ?_; (with_reducible refine (wire_Int.calls k2 (a1.extract 0 ((ji5) : Int).toNat) (rd y168 x75_2) t172 t173 t174 _ A34.out).mono ?_); rintro e w' ⟨rfl, ⟨nd, rfl⟩⟩; refine ⟨_, rfl, ?_⟩) | ((with_reducible refine gate_callee (f := 16) rfl ?_); refine goesL_ (some 89) rfl rfl Tryd.func16 (by kernel_rfl) rfl #[.string (a1.extract 0 ((ji5) : Int).toNat), .int .i64 (rd y168 x75_2)] rfl (by (try simp only [List.map_toArray, List.map_cons, List.map_nil]); first | done | (simp only [hji5]; rfl) | rfl | (simp only [List.length_drop, List.length_take]; rfl)) ?_; (with_reducible refine (workpieceref01_Int.calls k2 (a1.extract 0 ((ji5) : Int).toNat) (rd y168 x75_2) t175 t176 t177 _ A35.out).mono ?_); rintro e w52 ⟨rfl, hb⟩; refine ⟨_, rfl, ?_⟩; have n0_ := Aside0.mk (Kd.R_below (by (with_reducible repeat (first | apply Kd.R_alloc | apply Kd.R_drewN | apply Kd.R_drew)); exact HO_73.out) hb); have n1_ := Aside0.mk (below_step (by repeat (first | (with_reducible first | exact HB.out | apply below_alloc | apply pw_below_drewN | apply below_drew1) | exact HB.out)) hb); clear HO_73; clear HB; have HO_73 := n0_; have HB := n1_; clear n0_ n1_; (try clear hb); (try clear hb2); (try clear hk); (try clear hi)) | ((with_reducible refine gate_callee (f := 17) rfl ?_); refine goesL_ (some 96) rfl rfl Tryd.func17 (by kernel_rfl) rfl #[.string (a1.extract 0 ((ji5) : Int).toNat), .int .i64 (rd y168 x75_2)] rfl (by (try simp only [List.map_toArray, List.map_cons, List.map_nil]); first | done | (simp only [hji5]; rfl) | rfl | (simp only [List.length_drop, List.length_take]; rfl)) ?_; (with_reducible refine (wire_String.calls k2 (a1.extract 0 ((ji5) : Int).toNat) (rd y168 x75_2) t178 t179 t180 _ A36.out).mono ?_); rintro e w' ⟨rfl, ⟨nd, rfl⟩⟩; refine ⟨_, rfl, ?_⟩) | ((with_reducible refine gate_callee (f := 18) rfl ?_); refine goesL_ (some 103) rfl rfl Tryd.func18 (by kernel_rfl) rfl #[.string (a1.extract 0 ((ji5) : Int).toNat), .int .i64 (rd y168 x75_2)] rfl (by (try simp only [List.map_toArray, List.map_cons, List.map_nil]); first | done | (simp only [hji5]; rfl) | rfl | (simp only [List.length_drop, List.length_take]; rfl)) ?_; (with_reducible refine (workpieceref01_String.calls k2 (a1.extract 0 ((ji5) : Int).toNat) (rd y168 x75_2) t181 t182 t183 _ A37.out).mono ?_); rintro e w53 ⟨rfl, hb⟩; refine ⟨_, rfl, ?_⟩; have n0_ := Aside0.mk (Kd.R_below (by (with_reducible repeat (first | apply Kd.R_alloc | apply Kd.R_drewN | apply Kd.R_drew)); exact HO_73.out) hb); have n1_ := Aside0.mk (below_step (by repeat (first | (with_reducible first | exact HB.out | apply below_alloc | apply pw_below_drewN | apply below_drew1) | exact HB.out)) hb); clear HO_73; clear HB; have HO_73 := n0_; have HB := n1_; clear n0_ n1_; (try clear hb); (try clear hb2); (try clear hk); (try clear hi)))
                               go_ret
                               exact ⟨by first | rfl | (simp [errW_none, errW_some] <;> rfl) | (simp only [← hji5]; first | rfl | (simp [errW_none, errW_some] <;> rfl)) | (simp [*, errW_none, errW_some] <;> rfl), by repeat (first | (with_reducible first | exact HB.out | apply below_alloc | apply pw_below_drewN | apply below_drew1) | exact HB.out)⟩)
                        · rw [if_neg c39] at H
                          have c39b0 : (t173 == t176) = false := beq_eq_false_iff_ne.mpr c39
                          have c39b1 : (t173 != t176) = true := bne_iff_ne.mpr c39
                          first
                          | exact absurd ((Option.some.inj H).trans hr) (by decide)
                          | (clear hr
                             obtain rfl := Option.some.inj H
                             have p171 : 0 ≤ (x75_2 : Int) := of_decide_eq_true (by first | (with_reducible assumption) | assumption)
                             have q171 : x75_2 < (y168.length : Int) := of_decide_eq_true (by first | (with_reducible assumption) | assumption)
                             obtain ⟨ad171, e171, hx171_0⟩ := Kd.at_int (Kd.R_reads' HO_73.out).2.2 x75_2 p171 q171
                             cases e171
                             replace p171 := eq_true p171
                             replace q171 := eq_true q171
                             go_wp2_with (first | ((with_reducible refine gate_callee (f := 15) rfl ?_); refine goesL_ (some 82) rfl rfl Tryd.func15 (by kernel_rfl) rfl #[.string (a1.extract 0 ((ji5) : Int).toNat), .int .i64 (rd y168 x75_2)] rfl (by (try simp only [List.map_toArray, List.map_cons, List.map_nil]); first | done | (simp only [hji5]; rfl) | rfl | (simp only [List.length_drop, List.length_take]; rfl)) ?_; (with_reducible refine (wire_Int.calls k2 (a1.extract 0 ((ji5) : Int).toNat) (rd y168 x75_2) t172 t173 t174 _ A34.out).mono ?_); rintro e w' ⟨rfl, ⟨nd, rfl⟩⟩; refine ⟨_, rfl, ?_⟩) | ((with_reducible refine gate_callee (f := 16) rfl ?_); refine goesL_ (some 89) rfl rfl Tryd.func16 (by kernel_rfl) rfl #[.string (a1.extract 0 ((ji5) : Int).toNat), .int .i64 (rd y168 x75_2)] rfl (by (try simp only [List.map_toArray, List.map_cons, List.map_nil]); first | done | (simp only [hji5]; rfl) | rfl | (simp only [List.length_drop, List.length_take]; rfl)) ?_; (with_reducible refine (workpieceref01_Int.calls k2 (a1.extract 0 ((ji5) : Int).toNat) (rd y168 x75_2) t175 t176 t177 _ A35.out).mono ?_); rintro e w54 ⟨rfl, hb⟩; refine ⟨_, rfl, ?_⟩; have n0_ := Aside0.mk (Kd.R_below (by (with_reducible repeat (first | apply Kd.R_alloc | apply Kd.R_drewN | apply Kd.R_drew)); exact HO_73.out) hb); have n1_ := Aside0.mk (below_step (by repeat (first | (with_reducible first | exact HB.out | apply below_alloc | apply pw_below_drewN | apply below_drew1) | exact HB.out)) hb); clear HO_73; clear HB; have HO_73 := n0_; have HB := n1_; clear n0_ n1_; (try clear hb); (try clear hb2); (try clear hk); (try clear hi)) | ((with_reducible refine gate_callee (f := 17) rfl ?_); refine goesL_ (some 96) rfl rfl Tryd.func17 (by kernel_rfl) rfl #[.string (a1.extract 0 ((ji5) : Int).toNat), .int .i64 (rd y168 x75_2)] rfl (by (try simp only [List.map_toArray, List.map_cons, List.map_nil]); first | done | (simp only [hji5]; rfl) | rfl | (simp only [List.length_drop, List.length_take]; rfl)) ?_; (with_reducible refine (wire_String.calls k2 (a1.extract 0 ((ji5) : Int).toNat) (rd y168 x75_2) t178 t179 t180 _ A36.out).mono ?_); rintro e w' ⟨rfl, ⟨nd, rfl⟩⟩; refine ⟨_, rfl, ?_⟩) | ((with_reducible refine gate_callee (f := 18) rfl ?_); refine goesL_ (some 103) rfl rfl Tryd.func18 (by kernel_rfl) rfl #[.string (a1.extract 0 ((ji5) : Int).toNat), .int .i64 (rd y168 x75_2)] rfl (by (try simp only [List.map_toArray, List.map_cons, List.map_nil]); first | done | (simp only [hji5]; rfl) | rfl | (simp only [List.length_drop, List.length_take]; rfl)) ?_; (with_reducible refine (workpieceref01_String.calls k2 (a1.extract 0 ((ji5) : Int).toNat) (rd y168 x75_2) t181 t182 t183 _ A37.out).mono ?_); rintro e w55 ⟨rfl, hb⟩; refine ⟨_, rfl, ?_⟩; have n0_ := Aside0.mk (Kd.R_below (by (with_reducible repeat (first | apply Kd.R_alloc | apply Kd.R_drewN | apply Kd.R_drew)); exact HO_73.out) hb); have n1_ := Aside0.mk (below_step (by repeat (first | (with_reducible first | exact HB.out | apply below_alloc | apply pw_below_drewN | apply below_drew1) | exact HB.out)) hb); clear HO_73; clear HB; have HO_73 := n0_; have HB := n1_; clear n0_ n1_; (try clear hb); (try clear hb2); (try clear hk); (try clear hi)))
                             go_ret
                             exact ⟨by first | rfl | (simp [errW_none, errW_some] <;> rfl) | (simp only [← hji5]; first | rfl | (simp [errW_none, errW_some] <;> rfl)) | (simp [*, errW_none, errW_some] <;> rfl), by repeat (first | (with_reducible first | exact HB.out | apply below_alloc | apply pw_below_drewN | apply below_drew1) | exact HB.out)⟩)
                      · rw [if_neg c38] at H
                        have c38b0 : (t172 == t175) = false := beq_eq_false_iff_ne.mpr c38
                        have c38b1 : (t172 != t175) = true := bne_iff_ne.mpr c38
                        first
                        | exact absurd ((Option.some.inj H).trans hr) (by decide)
                        | (clear hr
                           obtain rfl := Option.some.inj H
                           have p171 : 0 ≤ (x75_2 : Int) := of_decide_eq_true (by first | (with_reducible assumption) | assumption)
                           have q171 : x75_2 < (y168.length : Int) := of_decide_eq_true (by first | (with_reducible assumption) | assumption)
                           obtain ⟨ad171, e171, hx171_0⟩ := Kd.at_int (Kd.R_reads' HO_73.out).2.2 x75_2 p171 q171
                           cases e171
                           replace p171 := eq_true p171
                           replace q171 := eq_true q171
                           go_wp2_with (first | ((with_reducible refine gate_callee (f := 15) rfl ?_); refine goesL_ (some 82) rfl rfl Tryd.func15 (by kernel_rfl) rfl #[.string (a1.extract 0 ((ji5) : Int).toNat), .int .i64 (rd y168 x75_2)] rfl (by (try simp only [List.map_toArray, List.map_cons, List.map_nil]); first | done | (simp only [hji5]; rfl) | rfl | (simp only [List.length_drop, List.length_take]; rfl)) ?_; (with_reducible refine (wire_Int.calls k2 (a1.extract 0 ((ji5) : Int).toNat) (rd y168 x75_2) t172 t173 t174 _ A34.out).mono ?_); rintro e w' ⟨rfl, ⟨nd, rfl⟩⟩; refine ⟨_, rfl, ?_⟩) | ((with_reducible refine gate_callee (f := 16) rfl ?_); refine goesL_ (some 89) rfl rfl Tryd.func16 (by kernel_rfl) rfl #[.string (a1.extract 0 ((ji5) : Int).toNat), .int .i64 (rd y168 x75_2)] rfl (by (try simp only [List.map_toArray, List.map_cons, List.map_nil]); first | done | (simp only [hji5]; rfl) | rfl | (simp only [List.length_drop, List.length_take]; rfl)) ?_; (with_reducible refine (workpieceref01_Int.calls k2 (a1.extract 0 ((ji5) : Int).toNat) (rd y168 x75_2) t175 t176 t177 _ A35.out).mono ?_); rintro e w56 ⟨rfl, hb⟩; refine ⟨_, rfl, ?_⟩; have n0_ := Aside0.mk (Kd.R_below (by (with_reducible repeat (first | apply Kd.R_alloc | apply Kd.R_drewN | apply Kd.R_drew)); exact HO_73.out) hb); have n1_ := Aside0.mk (below_step (by repeat (first | (with_reducible first | exact HB.out | apply below_alloc | apply pw_below_drewN | apply below_drew1) | exact HB.out)) hb); clear HO_73; clear HB; have HO_73 := n0_; have HB := n1_; clear n0_ n1_; (try clear hb); (try clear hb2); (try clear hk); (try clear hi)) | ((with_reducible refine gate_callee (f := 17) rfl ?_); refine goesL_ (some 96) rfl rfl Tryd.func17 (by kernel_rfl) rfl #[.string (a1.extract 0 ((ji5) : Int).toNat), .int .i64 (rd y168 x75_2)] rfl (by (try simp only [List.map_toArray, List.map_cons, List.map_nil]); first | done | (simp only [hji5]; rfl) | rfl | (simp only [List.length_drop, List.length_take]; rfl)) ?_; (with_reducible refine (wire_String.calls k2 (a1.extract 0 ((ji5) : Int).toNat) (rd y168 x75_2) t178 t179 t180 _ A36.out).mono ?_); rintro e w' ⟨rfl, ⟨nd, rfl⟩⟩; refine ⟨_, rfl, ?_⟩) | ((with_reducible refine gate_callee (f := 18) rfl ?_); refine goesL_ (some 103) rfl rfl Tryd.func18 (by kernel_rfl) rfl #[.string (a1.extract 0 ((ji5) : Int).toNat), .int .i64 (rd y168 x75_2)] rfl (by (try simp only [List.map_toArray, List.map_cons, List.map_nil]); first | done | (simp only [hji5]; rfl) | rfl | (simp only [List.length_drop, List.length_take]; rfl)) ?_; (with_reducible refine (workpieceref01_String.calls k2 (a1.extract 0 ((ji5) : Int).toNat) (rd y168 x75_2) t181 t182 t183 _ A37.out).mono ?_); rintro e w57 ⟨rfl, hb⟩; refine ⟨_, rfl, ?_⟩; have n0_ := Aside0.mk (Kd.R_below (by (with_reducible repeat (first | apply Kd.R_alloc | apply Kd.R_drewN | apply Kd.R_drew)); exact HO_73.out) hb); have n1_ := Aside0.mk (below_step (by repeat (first | (with_reducible first | exact HB.out | apply below_alloc | apply pw_below_drewN | apply below_drew1) | exact HB.out)) hb); clear HO_73; clear HB; have HO_73 := n0_; have HB := n1_; clear n0_ n1_; (try clear hb); (try clear hb2); (try clear hk); (try clear hi)))
                           go_ret
                           exact ⟨by first | rfl | (simp [errW_none, errW_some] <;> rfl) | (simp only [← hji5]; first | rfl | (simp [errW_none, errW_some] <;> rfl)) | (simp [*, errW_none, errW_some] <;> rfl), by repeat (first | (with_reducible first | exact HB.out | apply below_alloc | apply pw_below_drewN | apply below_drew1) | exact HB.out)⟩)
                    · rw [if_neg c33] at H
                      exact absurd H (by simp)
                  · rw [if_neg c32] at H
                    exact absurd H (by simp)
                · rw [if_neg c31] at H
                  have c31b0 : decide (x75_2 < (y168.length : Int)) = false := decide_eq_false c31
                  clear c31
                  replace H := Option.bind_eq_some_iff.mp H
                  obtain ⟨⟨t184, t185⟩, A580, H⟩ := H
                  replace H : ((workpieceref01_PutString.f k2 (a1.extract 0 ((ji5) : Int).toNat)).bind fun bt186 => (if t157 = true then (if t184.toList = bt186.1.toList then (if t185 = bt186.2 then ((wire_Sum.f (a1.extract 0 ((ji5) : Int).toNat)).bind fun t188 => ((workpieceref01_Sum.f (a1.extract 0 ((ji5) : Int).toNat)).bind fun t189 => (some (t188 == t189)))) else (some false)) else (some false)) else (some false))) = some r := H
                  have A58 := Aside0.mk A580
                  clear A580
                  replace H := Option.bind_eq_some_iff.mp H
                  obtain ⟨⟨t186, t187⟩, A590, H⟩ := H
                  replace H : (if t157 = true then (if t184.toList = t186.toList then (if t185 = t187 then ((wire_Sum.f (a1.extract 0 ((ji5) : Int).toNat)).bind fun t188 => ((workpieceref01_Sum.f (a1.extract 0 ((ji5) : Int).toNat)).bind fun t189 => (some (t188 == t189)))) else (some false)) else (some false)) else (some false)) = some r := H
                  have A59 := Aside0.mk A590
                  clear A590
                  by_cases c60 : t157 = true
                  · subst c60
                    have H1 : (if t184.toList = t186.toList then (if t185 = t187 then ((wire_Sum.f (a1.extract 0 ((ji5) : Int).toNat)).bind fun t188 => ((workpieceref01_Sum.f (a1.extract 0 ((ji5) : Int).toNat)).bind fun t189 => (some (t188 == t189)))) else (some false)) else (some false)) = some r := by rw [if_pos rfl] at H; exact H
                    clear H
                    have H := H1
                    clear H1
                    by_cases c61 : t184.toList = t186.toList
                    · rw [if_pos c61] at H
                      have c61b0 : (t184.toList == t186.toList) = true := beq_iff_eq.mpr c61
                      have c61b1 : (t184.toList != t186.toList) = false := bne_eq_false_iff_eq.mpr c61
                      clear c61
                      by_cases c62 : t185 = t187
                      · rw [if_pos c62] at H
                        have c62b0 : (t185 == t187) = true := beq_iff_eq.mpr c62
                        have c62b1 : (t185 != t187) = false := bne_eq_false_iff_eq.mpr c62
                        clear c62
                        replace H := Option.bind_eq_some_iff.mp H
                        obtain ⟨t188, A630, H⟩ := H
                        replace H : ((workpieceref01_Sum.f (a1.extract 0 ((ji5) : Int).toNat)).bind fun t189 => (some (t188 == t189))) = some r := H
                        have A63 := Aside0.mk A630
                        clear A630
                        replace H := Option.bind_eq_some_iff.mp H
                        obtain ⟨t189, A640, H⟩ := H
                        replace H : (some (t188 == t189)) = some r := H
                        have A64 := Aside0.mk A640
                        clear A640
                        first
                        | exact absurd ((Option.some.inj H).trans hr) (by decide)
                        | (clear hr
                           obtain rfl := Option.some.inj H
                           go_wp2_with (first | ((with_reducible refine gate_callee (f := 19) rfl ?_); refine goesL_ (some 138) rfl rfl Tryd.func19 (by kernel_rfl) rfl #[.string (a1.extract 0 ((ji5) : Int).toNat)] rfl (by (try simp only [List.map_toArray, List.map_cons, List.map_nil]); first | done | (simp only [hji5]; rfl) | rfl | (simp only [List.length_drop, List.length_take]; rfl)) ?_; (with_reducible refine (wire_PutString.calls (a1.extract 0 ((ji5) : Int).toNat) t184 t185 _ A58.out).mono ?_); rintro e w65 ⟨rfl, hb⟩; refine ⟨_, rfl, ?_⟩; have n0_ := Aside0.mk (Kd.R_below (by (with_reducible repeat (first | apply Kd.R_alloc | apply Kd.R_drewN | apply Kd.R_drew)); exact HO_73.out) hb); have n1_ := Aside0.mk (below_step (by repeat (first | (with_reducible first | exact HB.out | apply below_alloc | apply pw_below_drewN | apply below_drew1) | exact HB.out)) hb); clear HO_73; clear HB; have HO_73 := n0_; have HB := n1_; clear n0_ n1_; (try clear hb); (try clear hb2); (try clear hk); (try clear hi)) | ((with_reducible refine gate_callee (f := 20) rfl ?_); refine goesL_ (some 143) rfl rfl Tryd.func20 (by kernel_rfl) rfl #[.string (a1.extract 0 ((ji5) : Int).toNat)] rfl (by (try simp only [List.map_toArray, List.map_cons, List.map_nil]); first | done | (simp only [hji5]; rfl) | rfl | (simp only [List.length_drop, List.length_take]; rfl)) ?_; (with_reducible refine (workpieceref01_PutString.calls k2 (a1.extract 0 ((ji5) : Int).toNat) t186 t187 _ A59.out).mono ?_); rintro e w66 ⟨rfl, hb⟩; refine ⟨_, rfl, ?_⟩; have n0_ := Aside0.mk (Kd.R_below (by (with_reducible repeat (first | apply Kd.R_alloc | apply Kd.R_drewN | apply Kd.R_drew)); exact HO_73.out) hb); have n1_ := Aside0.mk (below_step (by repeat (first | (with_reducible first | exact HB.out | apply below_alloc | apply pw_below_drewN | apply below_drew1) | exact HB.out)) hb); clear HO_73; clear HB; have HO_73 := n0_; have HB := n1_; clear n0_ n1_; (try clear hb); (try clear hb2); (try clear hk); (try clear hi)) | (go_at_call 21; (with_reducible refine (wire_Sum.calls (a1.extract 0 ((ji5) : Int).toNat) t188 _ A63.out ?hNib).mono ?_); (case hNib => exact nib_below hN.out (by repeat (first | (with_reducible first | exact HB.out | apply below_alloc | apply pw_below_drewN | apply below_drew1) | exact HB.out))); rintro e w' ⟨rfl, ⟨nd, rfl⟩⟩) | (go_at_call 22; (with_reducible refine (workpieceref01_Sum.calls (a1.extract 0 ((ji5) : Int).toNat) t189 _ A64.out).mono ?_); rintro e w' ⟨rfl, ⟨nd, rfl⟩⟩))
                           go_ret
                           exact ⟨by first | rfl | (simp [errW_none, errW_some] <;> rfl) | (simp only [← hji5]; first | rfl | (simp [errW_none, errW_some] <;> rfl)) | (simp [*, errW_none, errW_some] <;> rfl), by repeat (first | (with_reducible first | exact HB.out | apply below_alloc | apply pw_below_drewN | apply below_drew1) | exact HB.out)⟩)
                      · rw [if_neg c62] at H
                        have c62b0 : (t185 == t187) = false := beq_eq_false_iff_ne.mpr c62
                        have c62b1 : (t185 != t187) = true := bne_iff_ne.mpr c62
                        first
                        | exact absurd ((Option.some.inj H).trans hr) (by decide)
                        | (clear hr
                           obtain rfl := Option.some.inj H
                           go_wp2_with (first | ((with_reducible refine gate_callee (f := 19) rfl ?_); refine goesL_ (some 138) rfl rfl Tryd.func19 (by kernel_rfl) rfl #[.string (a1.extract 0 ((ji5) : Int).toNat)] rfl (by (try simp only [List.map_toArray, List.map_cons, List.map_nil]); first | done | (simp only [hji5]; rfl) | rfl | (simp only [List.length_drop, List.length_take]; rfl)) ?_; (with_reducible refine (wire_PutString.calls (a1.extract 0 ((ji5) : Int).toNat) t184 t185 _ A58.out).mono ?_); rintro e w67 ⟨rfl, hb⟩; refine ⟨_, rfl, ?_⟩; have n0_ := Aside0.mk (Kd.R_below (by (with_reducible repeat (first | apply Kd.R_alloc | apply Kd.R_drewN | apply Kd.R_drew)); exact HO_73.out) hb); have n1_ := Aside0.mk (below_step (by repeat (first | (with_reducible first | exact HB.out | apply below_alloc | apply pw_below_drewN | apply below_drew1) | exact HB.out)) hb); clear HO_73; clear HB; have HO_73 := n0_; have HB := n1_; clear n0_ n1_; (try clear hb); (try clear hb2); (try clear hk); (try clear hi)) | ((with_reducible refine gate_callee (f := 20) rfl ?_); refine goesL_ (some 143) rfl rfl Tryd.func20 (by kernel_rfl) rfl #[.string (a1.extract 0 ((ji5) : Int).toNat)] rfl (by (try simp only [List.map_toArray, List.map_cons, List.map_nil]); first | done | (simp only [hji5]; rfl) | rfl | (simp only [List.length_drop, List.length_take]; rfl)) ?_; (with_reducible refine (workpieceref01_PutString.calls k2 (a1.extract 0 ((ji5) : Int).toNat) t186 t187 _ A59.out).mono ?_); rintro e w68 ⟨rfl, hb⟩; refine ⟨_, rfl, ?_⟩; have n0_ := Aside0.mk (Kd.R_below (by (with_reducible repeat (first | apply Kd.R_alloc | apply Kd.R_drewN | apply Kd.R_drew)); exact HO_73.out) hb); have n1_ := Aside0.mk (below_step (by repeat (first | (with_reducible first | exact HB.out | apply below_alloc | apply pw_below_drewN | apply below_drew1) | exact HB.out)) hb); clear HO_73; clear HB; have HO_73 := n0_; have HB := n1_; clear n0_ n1_; (try clear hb); (try clear hb2); (try clear hk); (try clear hi)))
                           go_ret
                           exact ⟨by first | rfl | (simp [errW_none, errW_some] <;> rfl) | (simp only [← hji5]; first | rfl | (simp [errW_none, errW_some] <;> rfl)) | (simp [*, errW_none, errW_some] <;> rfl), by repeat (first | (with_reducible first | exact HB.out | apply below_alloc | apply pw_below_drewN | apply below_drew1) | exact HB.out)⟩)
                    · rw [if_neg c61] at H
                      have c61b0 : (t184.toList == t186.toList) = false := beq_eq_false_iff_ne.mpr c61
                      have c61b1 : (t184.toList != t186.toList) = true := bne_iff_ne.mpr c61
                      first
                      | exact absurd ((Option.some.inj H).trans hr) (by decide)
                      | (clear hr
                         obtain rfl := Option.some.inj H
                         go_wp2_with (first | ((with_reducible refine gate_callee (f := 19) rfl ?_); refine goesL_ (some 138) rfl rfl Tryd.func19 (by kernel_rfl) rfl #[.string (a1.extract 0 ((ji5) : Int).toNat)] rfl (by (try simp only [List.map_toArray, List.map_cons, List.map_nil]); first | done | (simp only [hji5]; rfl) | rfl | (simp only [List.length_drop, List.length_take]; rfl)) ?_; (with_reducible refine (wire_PutString.calls (a1.extract 0 ((ji5) : Int).toNat) t184 t185 _ A58.out).mono ?_); rintro e w69 ⟨rfl, hb⟩; refine ⟨_, rfl, ?_⟩; have n0_ := Aside0.mk (Kd.R_below (by (with_reducible repeat (first | apply Kd.R_alloc | apply Kd.R_drewN | apply Kd.R_drew)); exact HO_73.out) hb); have n1_ := Aside0.mk (below_step (by repeat (first | (with_reducible first | exact HB.out | apply below_alloc | apply pw_below_drewN | apply below_drew1) | exact HB.out)) hb); clear HO_73; clear HB; have HO_73 := n0_; have HB := n1_; clear n0_ n1_; (try clear hb); (try clear hb2); (try clear hk); (try clear hi)) | ((with_reducible refine gate_callee (f := 20) rfl ?_); refine goesL_ (some 143) rfl rfl Tryd.func20 (by kernel_rfl) rfl #[.string (a1.extract 0 ((ji5) : Int).toNat)] rfl (by (try simp only [List.map_toArray, List.map_cons, List.map_nil]); first | done | (simp only [hji5]; rfl) | rfl | (simp only [List.length_drop, List.length_take]; rfl)) ?_; (with_reducible refine (workpieceref01_PutString.calls k2 (a1.extract 0 ((ji5) : Int).toNat) t186 t187 _ A59.out).mono ?_); rintro e w70 ⟨rfl, hb⟩; refine ⟨_, rfl, ?_⟩; have n0_ := Aside0.mk (Kd.R_below (by (with_reducible repeat (first | apply Kd.R_alloc | apply Kd.R_drewN | apply Kd.R_drew)); exact HO_73.out) hb); have n1_ := Aside0.mk (below_step (by repeat (first | (with_reducible first | exact HB.out | apply below_alloc | apply pw_below_drewN | apply below_drew1) | exact HB.out)) hb); clear HO_73; clear HB; have HO_73 := n0_; have HB := n1_; clear n0_ n1_; (try clear hb); (try clear hb2); (try clear hk); (try clear hi)))
                         go_ret
                         exact ⟨by first | rfl | (simp [errW_none, errW_some] <;> rfl) | (simp only [← hji5]; first | rfl | (simp [errW_none, errW_some] <;> rfl)) | (simp [*, errW_none, errW_some] <;> rfl), by repeat (first | (with_reducible first | exact HB.out | apply below_alloc | apply pw_below_drewN | apply below_drew1) | exact HB.out)⟩)
                  · replace c60 := Bool.eq_false_iff.mpr c60
                    subst c60
                    have H1 : (some false) = some r := by rw [if_neg (show ¬ (false = true) by decide)] at H; exact H
                    clear H
                    have H := H1
                    clear H1
                    first
                    | exact absurd ((Option.some.inj H).trans hr) (by decide)
                    | (clear hr
                       obtain rfl := Option.some.inj H
                       go_wp2_with (first | ((with_reducible refine gate_callee (f := 19) rfl ?_); refine goesL_ (some 138) rfl rfl Tryd.func19 (by kernel_rfl) rfl #[.string (a1.extract 0 ((ji5) : Int).toNat)] rfl (by (try simp only [List.map_toArray, List.map_cons, List.map_nil]); first | done | (simp only [hji5]; rfl) | rfl | (simp only [List.length_drop, List.length_take]; rfl)) ?_; (with_reducible refine (wire_PutString.calls (a1.extract 0 ((ji5) : Int).toNat) t184 t185 _ A58.out).mono ?_); rintro e w71 ⟨rfl, hb⟩; refine ⟨_, rfl, ?_⟩; have n0_ := Aside0.mk (Kd.R_below (by (with_reducible repeat (first | apply Kd.R_alloc | apply Kd.R_drewN | apply Kd.R_drew)); exact HO_73.out) hb); have n1_ := Aside0.mk (below_step (by repeat (first | (with_reducible first | exact HB.out | apply below_alloc | apply pw_below_drewN | apply below_drew1) | exact HB.out)) hb); clear HO_73; clear HB; have HO_73 := n0_; have HB := n1_; clear n0_ n1_; (try clear hb); (try clear hb2); (try clear hk); (try clear hi)) | ((with_reducible refine gate_callee (f := 20) rfl ?_); refine goesL_ (some 143) rfl rfl Tryd.func20 (by kernel_rfl) rfl #[.string (a1.extract 0 ((ji5) : Int).toNat)] rfl (by (try simp only [List.map_toArray, List.map_cons, List.map_nil]); first | done | (simp only [hji5]; rfl) | rfl | (simp only [List.length_drop, List.length_take]; rfl)) ?_; (with_reducible refine (workpieceref01_PutString.calls k2 (a1.extract 0 ((ji5) : Int).toNat) t186 t187 _ A59.out).mono ?_); rintro e w72 ⟨rfl, hb⟩; refine ⟨_, rfl, ?_⟩; have n0_ := Aside0.mk (Kd.R_below (by (with_reducible repeat (first | apply Kd.R_alloc | apply Kd.R_drewN | apply Kd.R_drew)); exact HO_73.out) hb); have n1_ := Aside0.mk (below_step (by repeat (first | (with_reducible first | exact HB.out | apply below_alloc | apply pw_below_drewN | apply below_drew1) | exact HB.out)) hb); clear HO_73; clear HB; have HO_73 := n0_; have HB := n1_; clear n0_ n1_; (try clear hb); (try clear hb2); (try clear hk); (try clear hi)))
                       go_ret
                       exact ⟨by first | rfl | (simp [errW_none, errW_some] <;> rfl) | (simp only [← hji5]; first | rfl | (simp [errW_none, errW_some] <;> rfl)) | (simp [*, errW_none, errW_some] <;> rfl), by repeat (first | (with_reducible first | exact HB.out | apply below_alloc | apply pw_below_drewN | apply below_drew1) | exact HB.out)⟩)
    · rw [if_neg c7] at H
      exact absurd H (by simp)
  · rw [if_neg c6] at H
    exact absurd H (by simp)

/-- THE ONE PURE STATEMENT of workpiecelaw01_WireMatchesReference: yours. -/
def workpiecelaw01_WireMatchesReference.Pure : Prop := ∀ (a0 : Int) (a1 : ByteArray) (a2 : Int), (Lit.int .i64 a0).wf = true → a1.size ≤ 140737488351232 → (Lit.int .i64 a2).wf = true → ∃ k, workpiecelaw01_WireMatchesReference.f k a0 a1 a2 = some true
theorem workpiecelaw01_WireMatchesReference.walk (P : workpiecelaw01_WireMatchesReference.Pure) (a0 : Int) (a1 : ByteArray) (a2 : Int) (w : World) (w0 : (Lit.int .i64 a0).wf = true) (w1 : a1.size ≤ 140737488351232) (w2 : (Lit.int .i64 a2).wf = true) (hN : Aside0 (Nib w)) :
    Calls Tryd.prog 3 #[.int .i64 a0, .string a1, .int .i64 a2] w fun e w' => e = .returned (.bool true) ∧ Below w.heap.size w w' := by
  obtain ⟨k, h⟩ := P a0 a1 a2 w0 w1 w2
  refine (workpiecelaw01_WireMatchesReference.calls k a0 a1 a2 true w h rfl hN).mono ?_
  rintro e w' ⟨rfl, hd⟩
  exact ⟨rfl, hd⟩

end Go.Proofs.YtodaajokphoioaaDoor.L

-- by a program of this seat (wip/tools/doctor.py, lawtext.py)
import Derived.Test.YtodaajokphoioaaDoorLx0
import Derived.Test.YtodaajokphoioaaDoorLx1
namespace Go.Proofs.YtodaajokphoioaaDoor.L
open Go.RowKit Go.Proofs.YtodaajokphoioaaDoorW.PrintWords Go.Proofs.YtodaajokphoioaaDoorW.PrintLast Go.Proofs.YtodaajokphoioaaDoorW.PrintMore
attribute [local go_sem] max2_int min2_int max_two min_two max_three min_three max_four min_four   -- for this text's walks alone
set_option linter.unusedVariables false
set_option linter.unusedSimpArgs false

/-! ### workpieceref01_PutInt: function 13 -/
mutual
def workpieceref01_PutInt.j0 : Nat → Int → Bool → Option (ByteArray × Int)
  | 0, _, _ => none
  | k + 1, x0, x11 => if x11 = true then (some ((⟨#[]⟩ : ByteArray), 10)) else ((workpieceref01_zigzag.f x0).bind fun t141 => (workpieceref01_PutInt.l0 k t141 ([] : List Int)))
def workpieceref01_PutInt.l0 : Nat → Int → List Int → Option (ByteArray × Int)
  | 0, _, _ => none
  | k + 1, x4, x5 => if x4 ≥ 128 then (if x5.length < 140737488355328 then (workpieceref01_PutInt.l0 k (IntKind.u64.wrap (Int.tdiv x4 128)) (x5 ++ [(IntKind.u64.wrap ((Int.tmod x4 128) + 128)) % 256])) else (none)) else (if x5.length < 140737488355328 then (some (strOfNums (x5 ++ [(x4) % 256]), 0)) else (none))
end
def workpieceref01_PutInt.f (k : Nat) (a0 : Int) : Option (ByteArray × Int) := if a0 < (-4611686018427387903) then (workpieceref01_PutInt.j0 k a0 true) else (workpieceref01_PutInt.j0 k a0 (decide (a0 > 4611686018427387903)))
theorem workpieceref01_PutInt.mono_l : ∀ k, (∀ y0 y1, LeO (workpieceref01_PutInt.j0 k y0 y1) (workpieceref01_PutInt.j0 (k + 1) y0 y1)) ∧ (∀ y0 y1, LeO (workpieceref01_PutInt.l0 k y0 y1) (workpieceref01_PutInt.l0 (k + 1) y0 y1))
  | 0 => ⟨fun _ _ r h => by simp [workpieceref01_PutInt.j0] at h, fun _ _ r h => by simp [workpieceref01_PutInt.l0] at h⟩
  | k + 1 => by
    obtain ⟨ih0, ih1⟩ := workpieceref01_PutInt.mono_l k
    refine ⟨?_, ?_⟩
    · intro y0 y1
      unfold workpieceref01_PutInt.j0
      repeat' first
      | (with_reducible exact ih0 _ _)
      | (with_reducible exact ih1 _ _)
      | (with_reducible exact LeO.refl _)
      | (with_reducible exact LeO.none _)
      | (with_reducible refine LeO.ite ?_ ?_)
      | (with_reducible refine LeO.bind ?_ (fun _ => ?_))
      | exact ih0 _ _
      | exact ih1 _ _
      | exact LeO.none _
      | refine LeO.ite ?_ ?_
      | refine LeO.bind ?_ (fun _ => ?_)
    · intro y0 y1
      unfold workpieceref01_PutInt.l0
      repeat' first
      | (with_reducible exact ih0 _ _)
      | (with_reducible exact ih1 _ _)
      | (with_reducible exact LeO.refl _)
      | (with_reducible exact LeO.none _)
      | (with_reducible refine LeO.ite ?_ ?_)
      | (with_reducible refine LeO.bind ?_ (fun _ => ?_))
      | exact ih0 _ _
      | exact ih1 _ _
      | exact LeO.none _
      | refine LeO.ite ?_ ?_
      | refine LeO.bind ?_ (fun _ => ?_)
theorem workpieceref01_PutInt.mono : ∀ a0 k, LeO (workpieceref01_PutInt.f k a0) (workpieceref01_PutInt.f (k + 1) a0) := by
  intro a0 k
  obtain ⟨ih0, ih1⟩ := workpieceref01_PutInt.mono_l k
  unfold workpieceref01_PutInt.f
  repeat' first
      | (with_reducible exact ih0 _ _)
      | (with_reducible exact ih1 _ _)
      | (with_reducible exact LeO.refl _)
      | (with_reducible exact LeO.none _)
      | (with_reducible refine LeO.ite ?_ ?_)
      | (with_reducible refine LeO.bind ?_ (fun _ => ?_))
      | exact ih0 _ _
      | exact ih1 _ _
      | exact LeO.none _
      | refine LeO.ite ?_ ?_
      | refine LeO.bind ?_ (fun _ => ?_)
set_option maxHeartbeats 8000000 in
set_option maxRecDepth 100000 in
theorem workpieceref01_PutInt.calls (k : Nat) (a0 : Int) (r1 : ByteArray) (r2 : Int) (w : World) (h : workpieceref01_PutInt.f k a0 = some (r1, r2)) :
    Calls Tryd.prog 13 #[.int .i64 a0] w fun e w' => e = .returned (.tuple #[.string r1, .int .i64 r2]) ∧ Below w.heap.size w w' := by
  have HB := Aside0.mk (Below.refl w.heap.size w)
  have H : (if a0 < (-4611686018427387903) then (workpieceref01_PutInt.j0 k a0 true) else (workpieceref01_PutInt.j0 k a0 (decide (a0 > 4611686018427387903)))) = some (r1, r2) := h
  clear h
  have HC2 := Aside0.mk H
  clear H
  go_enter Tryd.func13, Tryd.ntmps13
  go_upto_region 1 with (fail)
  go_cut [11] (fun v11 wc => ∃ (kq : Nat) (x11_1 : Bool), v11 = .bool x11_1 ∧ Aside0 (workpieceref01_PutInt.j0 kq a0 x11_1 = some (r1, r2)) ∧ Aside0 (kq ≤ k) ∧ Aside0 (Below w.heap.size w wc))
  case first =>
    have H := HC2.out
    clear HC2
    by_cases c3 : a0 < (-4611686018427387903)
    · rw [if_pos c3] at H
      have c3b0 : decide (a0 < (-4611686018427387903)) = true := decide_eq_true c3
      clear c3
      (first | rw [c3b0] | (simp only [i64_w, i32_w]; rw [c3b0]) | skip)
      have H' := Aside0.mk H
      clear H
      go_wp2
      go_meet
      case rel => exact ⟨_, (true), (by first | rfl | (simp; done) | (simp [*]; done)), H', ⟨by first | omega | exact Nat.le_refl _⟩, ⟨by repeat (first | (with_reducible first | exact HB.out | apply below_alloc | apply pw_below_drewN | apply below_drew1) | exact HB.out)⟩⟩
    · rw [if_neg c3] at H
      have c3b0 : decide (a0 < (-4611686018427387903)) = false := decide_eq_false c3
      clear c3
      (first | rw [c3b0] | (simp only [i64_w, i32_w]; rw [c3b0]) | skip)
      have H' := Aside0.mk H
      clear H
      go_wp2
      go_meet
      case rel => exact ⟨_, (decide (a0 > 4611686018427387903)), (by first | rfl | (simp; done) | (simp [*]; done)), H', ⟨by first | omega | exact Nat.le_refl _⟩, ⟨by repeat (first | (with_reducible first | exact HB.out | apply below_alloc | apply pw_below_drewN | apply below_drew1) | exact HB.out)⟩⟩
  case rest =>
    clear HC2
    try clear c1
    try clear p2
    try clear c3
    try clear c3b0
    obtain ⟨kq, x11_1, rfl, HA, HJ1, HB⟩ := hcut
    cases kq with
    | zero => exact absurd HA.out (by simp [workpieceref01_PutInt.j0])
    | succ kj1 =>
      have H := HA.out
      clear HA
      simp only [workpieceref01_PutInt.j0] at H
      by_cases c4 : x11_1 = true
      · subst c4
        have H1 : (some ((⟨#[]⟩ : ByteArray), 10)) = some (r1, r2) := by rw [if_pos rfl] at H; exact H
        clear H
        have H := H1
        clear H1
        simp only [Option.some.injEq, Prod.mk.injEq] at H
        obtain ⟨rfl, rfl⟩ := H
        go_wp2
        go_ret2
        exact ⟨by first | rfl | (simp [errW_none, errW_some] <;> rfl) | (simp [*, errW_none, errW_some] <;> rfl), by repeat (first | (with_reducible first | exact HB.out | apply below_alloc | apply pw_below_drewN | apply below_drew1) | exact HB.out)⟩
      · replace c4 := Bool.eq_false_iff.mpr c4
        subst c4
        have H1 : ((workpieceref01_zigzag.f a0).bind fun t141 => (workpieceref01_PutInt.l0 kj1 t141 ([] : List Int))) = some (r1, r2) := by rw [if_neg (show ¬ (false = true) by decide)] at H; exact H
        clear H
        have H := H1
        clear H1
        replace H := Option.bind_eq_some_iff.mp H
        obtain ⟨t141, A50, H⟩ := H
        replace H : (workpieceref01_PutInt.l0 kj1 t141 ([] : List Int)) = some (r1, r2) := H
        have A5 := Aside0.mk A50
        clear A50
        have H' := Aside0.mk H
        clear H
        go_wp2_with (first | ((with_reducible refine gate_callee (f := 24) rfl ?_); refine goesL_ (some 13) rfl rfl Tryd.func24 (by kernel_rfl) rfl #[.int .i64 a0] rfl (by (try simp only [List.map_toArray, List.map_cons, List.map_nil]); first | done | rfl | (simp only [List.length_drop, List.length_take]; rfl)) ?_; (with_reducible refine (workpieceref01_zigzag.calls a0 t141 _ A5.out).mono ?_); rintro e w' ⟨rfl, ⟨nd, rfl⟩⟩; refine ⟨_, rfl, ?_⟩))
        go_loopg [4, 5] kj1 (fun kq v4 v5 w' => ∃ (x4_2 : Int) (x5_2 : List Int), v4 = .int .u64 x4_2 ∧ Aside0 (workpieceref01_PutInt.l0 kq x4_2 x5_2 = some (r1, r2)) ∧ Aside0 (kq ≤ kj1) ∧ Aside0 (Kd.R (Kd.int .u8) 5 w' w.heap.size (fun _ => True) v5 x5_2) ∧ Aside0 (Below w.heap.size w w'))
        case atStart => exact ⟨(t141), (([] : List Int)), (by first | rfl | (simp; done) | (simp [*]; done)), H', ⟨Nat.le_refl _⟩, ⟨by first | exact Kd.R_nil _ _ _ _ _ | exact Kd.N_nil _ _ _ _ _ | exact Kd.V_nil _ _ _ _ _ | exact Kd.Q_nil _ _ _ _ _ | exact Kd.S_nil _ _ _ _ _⟩, ⟨by repeat (first | (with_reducible first | exact HB.out | apply below_alloc | apply pw_below_drewN | apply below_drew1) | exact HB.out)⟩⟩
        case round =>
          clear H'
          try clear c1
          try clear c2
          try clear p2
          try clear c3
          try clear c3b0
          try clear c4
          try clear p2
          obtain ⟨x4_2, x5_2, rfl, HA, HK2, HO_5, HB⟩ := hrel
          cases gk with
          | zero => exact absurd HA.out (by simp [workpieceref01_PutInt.l0])
          | succ k2 =>
            have H := HA.out
            clear HA
            simp only [workpieceref01_PutInt.l0] at H
            by_cases c6 : x4_2 ≥ 128
            · rw [if_pos c6] at H
              have c6b0 : decide (128 ≤ x4_2) = true := decide_eq_true c6
              clear c6
              by_cases c7 : x5_2.length < 140737488355328
              · rw [if_pos c7] at H
                have LMc7 := Aside0.mk c7
                clear c7
                obtain ⟨y142, hy142⟩ : ∃ y_ : List Int, y_ = (x5_2 ++ [(IntKind.u64.wrap ((Int.tmod x4_2 128) + 128)) % 256]) := ⟨_, rfl⟩
                replace H : (workpieceref01_PutInt.l0 k2 (IntKind.u64.wrap (Int.tdiv x4_2 128)) y142) = some (r1, r2) := by first | (rw [hy142]; with_reducible exact H) | (have H2_ := (Option.bind_some _ _).symm.trans H; rw [hy142]; with_reducible exact H2_) | (have H2_ := (Option.bind_some _ _).symm.trans H; with_reducible exact H2_) | with_reducible exact H | (rw [hy142]; exact H) | exact H
                have Ny142 := Aside0.mk hy142
                clear hy142
                have H' := Aside0.mk H
                clear H
                go_wp2_with (first | ((with_reducible refine gate_builtin (b := .append) (xs := #[.tmp 16, .tmp 21]) rfl ?_); at_builtin; refine Kd.R_append (Kd.int .u8) (w0 := w) w.heap.size rfl (.tmp 16) (.tmp 21) 38 5 (.int .u8 0) 1 rfl Tryd.underlying38 info5 rfl (by decide) (by omega) u5 x5_2 ((IntKind.u64.wrap ((Int.tmod x4_2 128) + 128)) % 256) [.int .u8 ((IntKind.u64.wrap ((Int.tmod x4_2 128) + 128)) % 256)] (fun _ => True) (fun _ => False) rfl rfl ?aP (fun _ hk => hk.elim) ?aF ?aO ?aB ?aS ?aL ?_; (case aP => exact rfl); (case aB => exact (by repeat (first | (with_reducible first | exact HB.out | apply below_alloc | apply pw_below_drewN | apply below_drew1) | exact HB.out))); (case aF => exact (fun _ _ => trivial)); (case aO => exact (by (with_reducible repeat (first | apply Kd.R_alloc | apply Kd.R_drewN | apply Kd.R_drew)); exact HO_5.out)); (case aS => exact (below_size (by repeat (first | (with_reducible first | exact HB.out | apply below_alloc | apply pw_below_drewN | apply below_drew1) | exact HB.out)))); (case aL => have := LMc7.out; omega); intro v143 w8 ho hb hg hat; rw [← Ny142.out] at ho; have n0_ := Aside0.mk (hb); have n1_ := Aside0.mk (ho); clear HB; clear HO_5; have HB := n0_; have HO144 := n1_; clear n0_ n1_; clear ho hb hg hat))
                go_roundg k2
                case measure => have := HJ1.out; have := HK2.out; omega
                case rel => exact ⟨(IntKind.u64.wrap (Int.tdiv x4_2 128)), (y142), (by first | rfl | (simp; done) | (simp [*]; done)), H', ⟨by have := HJ1.out; have := HK2.out; omega⟩, ⟨by (with_reducible repeat (first | apply Kd.R_alloc | apply Kd.R_drewN | apply Kd.R_drew)); exact HO144.out⟩, ⟨by repeat (first | (with_reducible first | exact HB.out | apply below_alloc | apply pw_below_drewN | apply below_drew1) | exact HB.out)⟩⟩
              · rw [if_neg c7] at H
                exact absurd H (by simp)
            · rw [if_neg c6] at H
              have c6b0 : decide (128 ≤ x4_2) = false := decide_eq_false c6
              clear c6
              by_cases c9 : x5_2.length < 140737488355328
              · rw [if_pos c9] at H
                have LMc9 := Aside0.mk c9
                clear c9
                obtain ⟨y145, hy145⟩ : ∃ y_ : List Int, y_ = (x5_2 ++ [(x4_2) % 256]) := ⟨_, rfl⟩
                replace H : (some (strOfNums y145, 0)) = some (r1, r2) := by first | (rw [hy145]; with_reducible exact H) | (have H2_ := (Option.bind_some _ _).symm.trans H; rw [hy145]; with_reducible exact H2_) | (have H2_ := (Option.bind_some _ _).symm.trans H; with_reducible exact H2_) | with_reducible exact H | (rw [hy145]; exact H) | exact H
                have Ny145 := Aside0.mk hy145
                clear hy145
                simp only [Option.some.injEq, Prod.mk.injEq] at H
                obtain ⟨rfl, rfl⟩ := H
                go_wp2_with (first | ((with_reducible refine gate_builtin (b := .append) (xs := #[.tmp 25, .tmp 28]) rfl ?_); at_builtin; refine Kd.R_append (Kd.int .u8) (w0 := w) w.heap.size rfl (.tmp 25) (.tmp 28) 38 5 (.int .u8 0) 1 rfl Tryd.underlying38 info5 rfl (by decide) (by omega) u5 x5_2 ((x4_2) % 256) [.int .u8 ((x4_2) % 256)] (fun _ => True) (fun _ => False) rfl rfl ?aP (fun _ hk => hk.elim) ?aF ?aO ?aB ?aS ?aL ?_; (case aP => exact rfl); (case aB => exact (by repeat (first | (with_reducible first | exact HB.out | apply below_alloc | apply pw_below_drewN | apply below_drew1) | exact HB.out))); (case aF => exact (fun _ _ => trivial)); (case aO => exact (by (with_reducible repeat (first | apply Kd.R_alloc | apply Kd.R_drewN | apply Kd.R_drew)); exact HO_5.out)); (case aS => exact (below_size (by repeat (first | (with_reducible first | exact HB.out | apply below_alloc | apply pw_below_drewN | apply below_drew1) | exact HB.out)))); (case aL => have := LMc9.out; omega); intro v146 w10 ho hb hg hat; rw [← Ny145.out] at ho; have n0_ := Aside0.mk (hb); have n1_ := Aside0.mk (ho); clear HB; clear HO_5; have HB := n0_; have HO147 := n1_; clear n0_ n1_; clear ho hb hg hat; have hcv11 := own_string (P := Tryd.prog) Tryd.underlying38 Tryd.underlying5 Tryd.underlying9 (Kd.own_of_R HO147.out)))
                go_ret2
                exact ⟨by first | rfl | (simp [errW_none, errW_some] <;> rfl) | (simp [*, errW_none, errW_some] <;> rfl), by repeat (first | (with_reducible first | exact HB.out | apply below_alloc | apply pw_below_drewN | apply below_drew1) | exact HB.out)⟩
              · rw [if_neg c9] at H
                exact absurd H (by simp)

/-! ### workpieceref01_Int: function 16 -/
mutual
def workpieceref01_Int.j0 : Nat → ByteArray → Int → Bool → Option (Int × Int × Int)
  | 0, _, _, _ => none
  | k + 1, x0, x1, x20 => if x20 = true then (some (0, 0, 2)) else (workpieceref01_Int.l0 k x0 x1 0 0)
def workpieceref01_Int.l0 : Nat → ByteArray → Int → Int → Int → Option (Int × Int × Int)
  | 0, _, _, _, _ => none
  | k + 1, x0, x1, x7, x8 => if x8 < 9 then (workpieceref01_Int.j2 k x0 x1 x7 x8 (decide ((wrap64 (x1 + x8)) < (x0.size : Int)))) else (workpieceref01_Int.j2 k x0 x1 x7 x8 false)
def workpieceref01_Int.j2 : Nat → ByteArray → Int → Int → Int → Bool → Option (Int × Int × Int)
  | 0, _, _, _, _, _ => none
  | k + 1, x0, x1, x7, x8, x30 => if x30 = true then (if 0 ≤ (wrap64 (x1 + x8)) then (if (wrap64 (x1 + x8)) < (x0.size : Int) then (if 0 ≤ (wrap64 (7 * x8)) then (if (IntKind.u64.wrap (bt x0 (wrap64 (x1 + x8)))) ≥ 128 then (workpieceref01_Int.l0 k x0 x1 (IntKind.u64.wrap (x7 + (shl .u64 (Int.tmod (IntKind.u64.wrap (bt x0 (wrap64 (x1 + x8)))) 128) (wrap64 (7 * x8))))) (wrap64 (x8 + 1))) else (if (Int.tmod (IntKind.u64.wrap (x7 + (shl .u64 (Int.tmod (IntKind.u64.wrap (bt x0 (wrap64 (x1 + x8)))) 128) (wrap64 (7 * x8))))) 2) = 1 then ((workpieceref01_PutInt.f k (wrap64 ((wrap64 (-(wrap64 (IntKind.u64.wrap (Int.tdiv (IntKind.u64.wrap (x7 + (shl .u64 (Int.tmod (IntKind.u64.wrap (bt x0 (wrap64 (x1 + x8)))) 128) (wrap64 (7 * x8))))) 2))))) - 1))).bind fun bt148 => (if bt148.2 = 0 then (if 0 ≤ x1 then (if x1 ≤ (wrap64 ((wrap64 (x1 + x8)) + 1)) then (if (wrap64 ((wrap64 (x1 + x8)) + 1)) ≤ (x0.size : Int) then (if bt148.1.toList = (x0.extract (x1 : Int).toNat ((wrap64 ((wrap64 (x1 + x8)) + 1)) : Int).toNat).toList then (some (wrap64 ((wrap64 (-(wrap64 (IntKind.u64.wrap (Int.tdiv (IntKind.u64.wrap (x7 + (shl .u64 (Int.tmod (IntKind.u64.wrap (bt x0 (wrap64 (x1 + x8)))) 128) (wrap64 (7 * x8))))) 2))))) - 1), wrap64 ((wrap64 (x1 + x8)) + 1), 0)) else (some (0, 0, 10))) else (none)) else (none)) else (none)) else (some (0, 0, 10)))) else ((workpieceref01_PutInt.f k (wrap64 (IntKind.u64.wrap (Int.tdiv (IntKind.u64.wrap (x7 + (shl .u64 (Int.tmod (IntKind.u64.wrap (bt x0 (wrap64 (x1 + x8)))) 128) (wrap64 (7 * x8))))) 2)))).bind fun bt150 => (if bt150.2 = 0 then (if 0 ≤ x1 then (if x1 ≤ (wrap64 ((wrap64 (x1 + x8)) + 1)) then (if (wrap64 ((wrap64 (x1 + x8)) + 1)) ≤ (x0.size : Int) then (if bt150.1.toList = (x0.extract (x1 : Int).toNat ((wrap64 ((wrap64 (x1 + x8)) + 1)) : Int).toNat).toList then (some (wrap64 (IntKind.u64.wrap (Int.tdiv (IntKind.u64.wrap (x7 + (shl .u64 (Int.tmod (IntKind.u64.wrap (bt x0 (wrap64 (x1 + x8)))) 128) (wrap64 (7 * x8))))) 2)), wrap64 ((wrap64 (x1 + x8)) + 1), 0)) else (some (0, 0, 10))) else (none)) else (none)) else (none)) else (some (0, 0, 10)))))) else (none)) else (none)) else (none)) else (some (0, 0, 10))
end
def workpieceref01_Int.f (k : Nat) (a0 : ByteArray) (a1 : Int) : Option (Int × Int × Int) := if a1 < 0 then (workpieceref01_Int.j0 k a0 a1 true) else (workpieceref01_Int.j0 k a0 a1 (decide (a1 > (a0.size : Int))))
theorem workpieceref01_Int.mono_l : ∀ k, (∀ y0 y1 y2, LeO (workpieceref01_Int.j0 k y0 y1 y2) (workpieceref01_Int.j0 (k + 1) y0 y1 y2)) ∧ (∀ y0 y1 y2 y3, LeO (workpieceref01_Int.l0 k y0 y1 y2 y3) (workpieceref01_Int.l0 (k + 1) y0 y1 y2 y3)) ∧ (∀ y0 y1 y2 y3 y4, LeO (workpieceref01_Int.j2 k y0 y1 y2 y3 y4) (workpieceref01_Int.j2 (k + 1) y0 y1 y2 y3 y4))
  | 0 => ⟨fun _ _ _ r h => by simp [workpieceref01_Int.j0] at h, fun _ _ _ _ r h => by simp [workpieceref01_Int.l0] at h, fun _ _ _ _ _ r h => by simp [workpieceref01_Int.j2] at h⟩
  | k + 1 => by
    obtain ⟨ih0, ih1, ih2⟩ := workpieceref01_Int.mono_l k
    refine ⟨?_, ?_, ?_⟩
    · intro y0 y1 y2
      unfold workpieceref01_Int.j0
      repeat' first
      | (with_reducible exact ih0 _ _ _)
      | (with_reducible exact ih1 _ _ _ _)
      | (with_reducible exact ih2 _ _ _ _ _)
      | (with_reducible exact workpieceref01_PutInt.mono _ _)
      | (with_reducible exact LeO.refl _)
      | (with_reducible exact LeO.none _)
      | (with_reducible refine LeO.ite ?_ ?_)
      | (with_reducible refine LeO.bind ?_ (fun _ => ?_))
      | exact ih0 _ _ _
      | exact ih1 _ _ _ _
      | exact ih2 _ _ _ _ _
      | exact workpieceref01_PutInt.mono _ _
      | exact LeO.none _
      | refine LeO.ite ?_ ?_
      | refine LeO.bind ?_ (fun _ => ?_)
    · intro y0 y1 y2 y3
      unfold workpieceref01_Int.l0
      repeat' first
      | (with_reducible exact ih0 _ _ _)
      | (with_reducible exact ih1 _ _ _ _)
      | (with_reducible exact ih2 _ _ _ _ _)
      | (with_reducible exact workpieceref01_PutInt.mono _ _)
      | (with_reducible exact LeO.refl _)
      | (with_reducible exact LeO.none _)
      | (with_reducible refine LeO.ite ?_ ?_)
      | (with_reducible refine LeO.bind ?_ (fun _ => ?_))
      | exact ih0 _ _ _
      | exact ih1 _ _ _ _
      | exact ih2 _ _ _ _ _
      | exact workpieceref01_PutInt.mono _ _
      | exact LeO.none _
      | refine LeO.ite ?_ ?_
      | refine LeO.bind ?_ (fun _ => ?_)
    · intro y0 y1 y2 y3 y4
      unfold workpieceref01_Int.j2
      repeat' first
      | (with_reducible exact ih0 _ _ _)
      | (with_reducible exact ih1 _ _ _ _)
      | (with_reducible exact ih2 _ _ _ _ _)
      | (with_reducible exact workpieceref01_PutInt.mono _ _)
      | (with_reducible exact LeO.refl _)
      | (with_reducible exact LeO.none _)
      | (with_reducible refine LeO.ite ?_ ?_)
      | (with_reducible refine LeO.bind ?_ (fun _ => ?_))
      | exact ih0 _ _ _
      | exact ih1 _ _ _ _
      | exact ih2 _ _ _ _ _
      | exact workpieceref01_PutInt.mono _ _
      | exact LeO.none _
      | refine LeO.ite ?_ ?_
      | refine LeO.bind ?_ (fun _ => ?_)
theorem workpieceref01_Int.mono : ∀ a0 a1 k, LeO (workpieceref01_Int.f k a0 a1) (workpieceref01_Int.f (k + 1) a0 a1) := by
  intro a0 a1 k
  obtain ⟨ih0, ih1, ih2⟩ := workpieceref01_Int.mono_l k
  unfold workpieceref01_Int.f
  repeat' first
      | (with_reducible exact ih0 _ _ _)
      | (with_reducible exact ih1 _ _ _ _)
      | (with_reducible exact ih2 _ _ _ _ _)
      | (with_reducible exact workpieceref01_PutInt.mono _ _)
      | (with_reducible exact LeO.refl _)
      | (with_reducible exact LeO.none _)
      | (with_reducible refine LeO.ite ?_ ?_)
      | (with_reducible refine LeO.bind ?_ (fun _ => ?_))
      | exact ih0 _ _ _
      | exact ih1 _ _ _ _
      | exact ih2 _ _ _ _ _
      | exact workpieceref01_PutInt.mono _ _
      | exact LeO.none _
      | refine LeO.ite ?_ ?_
      | refine LeO.bind ?_ (fun _ => ?_)
set_option maxHeartbeats 8000000 in
set_option maxRecDepth 100000 in
theorem workpieceref01_Int.calls (k : Nat) (a0 : ByteArray) (a1 : Int) (r1 : Int) (r2 : Int) (r3 : Int) (w : World) (h : workpieceref01_Int.f k a0 a1 = some (r1, r2, r3)) :
    Calls Tryd.prog 16 #[.string a0, .int .i64 a1] w fun e w' => e = .returned (.tuple #[.int .i64 r1, .int .i64 r2, .int .i64 r3]) ∧ Below w.heap.size w w' := by
  have HB := Aside0.mk (Below.refl w.heap.size w)
  have H : (if a1 < 0 then (workpieceref01_Int.j0 k a0 a1 true) else (workpieceref01_Int.j0 k a0 a1 (decide (a1 > (a0.size : Int))))) = some (r1, r2, r3) := h
  clear h
  have HC3 := Aside0.mk H
  clear H
  go_enter Tryd.func16, Tryd.ntmps16
  go_upto_region 1 with (fail)
  go_cut [20] (fun v20 wc => ∃ (kq : Nat) (x20_2 : Bool), v20 = .bool x20_2 ∧ Aside0 (workpieceref01_Int.j0 kq a0 a1 x20_2 = some (r1, r2, r3)) ∧ Aside0 (kq ≤ k) ∧ Aside0 (Below w.heap.size w wc))
  case first =>
    have H := HC3.out
    clear HC3
    by_cases c4 : a1 < 0
    · rw [if_pos c4] at H
      have c4b0 : decide (a1 < 0) = true := decide_eq_true c4
      clear c4
      (first | rw [c4b0] | (simp only [i64_w, i32_w]; rw [c4b0]) | skip)
      have H' := Aside0.mk H
      clear H
      go_wp2
      go_meet
      case rel => exact ⟨_, (true), (by first | rfl | (simp; done) | (simp [*]; done)), H', ⟨by first | omega | exact Nat.le_refl _⟩, ⟨by repeat (first | (with_reducible first | exact HB.out | apply below_alloc | apply pw_below_drewN | apply below_drew1) | exact HB.out)⟩⟩
    · rw [if_neg c4] at H
      have c4b0 : decide (a1 < 0) = false := decide_eq_false c4
      clear c4
      (first | rw [c4b0] | (simp only [i64_w, i32_w]; rw [c4b0]) | skip)
      have H' := Aside0.mk H
      clear H
      go_wp2
      go_meet
      case rel => exact ⟨_, (decide (a1 > (a0.size : Int))), (by first | rfl | (simp; done) | (simp [*]; done)), H', ⟨by first | omega | exact Nat.le_refl _⟩, ⟨by repeat (first | (with_reducible first | exact HB.out | apply below_alloc | apply pw_below_drewN | apply below_drew1) | exact HB.out)⟩⟩
  case rest =>
    clear HC3
    try clear c1
    try clear p2
    try clear c4
    try clear c4b0
    obtain ⟨kq, x20_2, rfl, HA, HJ2, HB⟩ := hcut
    cases kq with
    | zero => exact absurd HA.out (by simp [workpieceref01_Int.j0])
    | succ kj2 =>
      have H := HA.out
      clear HA
      simp only [workpieceref01_Int.j0] at H
      by_cases c5 : x20_2 = true
      · subst c5
        have H1 : (some (0, 0, 2)) = some (r1, r2, r3) := by rw [if_pos rfl] at H; exact H
        clear H
        have H := H1
        clear H1
        simp only [Option.some.injEq, Prod.mk.injEq] at H
        obtain ⟨rfl, rfl, rfl⟩ := H
        go_wp2
        go_ret3
        exact ⟨by first | rfl | (simp [errW_none, errW_some] <;> rfl) | (simp [*, errW_none, errW_some] <;> rfl), by repeat (first | (with_reducible first | exact HB.out | apply below_alloc | apply pw_below_drewN | apply below_drew1) | exact HB.out)⟩
      · replace c5 := Bool.eq_false_iff.mpr c5
        subst c5
        have H1 : (workpieceref01_Int.l0 kj2 a0 a1 0 0) = some (r1, r2, r3) := by rw [if_neg (show ¬ (false = true) by decide)] at H; exact H
        clear H
        have H := H1
        clear H1
        have H' := Aside0.mk H
        clear H
        go_wp2
        go_loopg [7, 8] kj2 (fun kq v7 v8 w' => ∃ (x7_2 : Int) (x8_2 : Int), v7 = .int .u64 x7_2 ∧ v8 = .int .i64 x8_2 ∧ Aside0 (workpieceref01_Int.l0 kq a0 a1 x7_2 x8_2 = some (r1, r2, r3)) ∧ Aside0 (kq ≤ kj2) ∧ Aside0 (Below w.heap.size w w'))
        case atStart => exact ⟨(0), (0), (by first | rfl | (simp; done) | (simp [*]; done)), (by first | rfl | (simp; done) | (simp [*]; done)), H', ⟨Nat.le_refl _⟩, ⟨by repeat (first | (with_reducible first | exact HB.out | apply below_alloc | apply pw_below_drewN | apply below_drew1) | exact HB.out)⟩⟩
        case round =>
          clear H'
          try clear c1
          try clear p2
          try clear c4
          try clear c4b0
          try clear c5
          try clear p2
          obtain ⟨x7_2, x8_2, rfl, rfl, HA, HK2, HB⟩ := hrel
          cases gk with
          | zero => exact absurd HA.out (by simp [workpieceref01_Int.l0])
          | succ k2 =>
            have H := HA.out
            clear HA
            simp only [workpieceref01_Int.l0] at H
            have HC6 := Aside0.mk H
            clear H
            go_upto_region 5 with (fail)
            go_cut [30] (fun v30 wc => ∃ (kq : Nat) (x30_5 : Bool), v30 = .bool x30_5 ∧ Aside0 (workpieceref01_Int.j2 kq a0 a1 x7_2 x8_2 x30_5 = some (r1, r2, r3)) ∧ Aside0 (kq ≤ k2) ∧ Aside0 (Below w.heap.size w wc))
            case first =>
              have H := HC6.out
              clear HC6
              by_cases c7 : x8_2 < 9
              · rw [if_pos c7] at H
                have c7b0 : decide (x8_2 < 9) = true := decide_eq_true c7
                clear c7
                (first | rw [c7b0] | (simp only [i64_w, i32_w]; rw [c7b0]) | skip)
                have H' := Aside0.mk H
                clear H
                go_wp2
                go_meet
                case rel => exact ⟨_, (decide ((wrap64 (a1 + x8_2)) < (a0.size : Int))), (by first | rfl | (simp; done) | (simp [*]; done)), H', ⟨by have := HJ2.out; have := HK2.out; first | omega | exact Nat.le_refl _⟩, ⟨by repeat (first | (with_reducible first | exact HB.out | apply below_alloc | apply pw_below_drewN | apply below_drew1) | exact HB.out)⟩⟩
              · rw [if_neg c7] at H
                have c7b0 : decide (x8_2 < 9) = false := decide_eq_false c7
                clear c7
                (first | rw [c7b0] | (simp only [i64_w, i32_w]; rw [c7b0]) | skip)
                have H' := Aside0.mk H
                clear H
                go_wp2
                go_meet
                case rel => exact ⟨_, (false), (by first | rfl | (simp; done) | (simp [*]; done)), H', ⟨by have := HJ2.out; have := HK2.out; first | omega | exact Nat.le_refl _⟩, ⟨by repeat (first | (with_reducible first | exact HB.out | apply below_alloc | apply pw_below_drewN | apply below_drew1) | exact HB.out)⟩⟩
            case rest =>
              clear HC6
              try clear c1
              try clear p2
              try clear c4
              try clear c4b0
              try clear c5
              try clear p6
              try clear c7
              try clear c7b0
              try clear p2
              obtain ⟨kq, x30_5, rfl, HA, HJ5, HB⟩ := hcut
              cases kq with
              | zero => exact absurd HA.out (by simp [workpieceref01_Int.j2])
              | succ kj5 =>
                have H := HA.out
                clear HA
                simp only [workpieceref01_Int.j2] at H
                by_cases c8 : x30_5 = true
                · subst c8
                  have H1 : (if 0 ≤ (wrap64 (a1 + x8_2)) then (if (wrap64 (a1 + x8_2)) < (a0.size : Int) then (if 0 ≤ (wrap64 (7 * x8_2)) then (if (IntKind.u64.wrap (bt a0 (wrap64 (a1 + x8_2)))) ≥ 128 then (workpieceref01_Int.l0 kj5 a0 a1 (IntKind.u64.wrap (x7_2 + (shl .u64 (Int.tmod (IntKind.u64.wrap (bt a0 (wrap64 (a1 + x8_2)))) 128) (wrap64 (7 * x8_2))))) (wrap64 (x8_2 + 1))) else (if (Int.tmod (IntKind.u64.wrap (x7_2 + (shl .u64 (Int.tmod (IntKind.u64.wrap (bt a0 (wrap64 (a1 + x8_2)))) 128) (wrap64 (7 * x8_2))))) 2) = 1 then ((workpieceref01_PutInt.f kj5 (wrap64 ((wrap64 (-(wrap64 (IntKind.u64.wrap (Int.tdiv (IntKind.u64.wrap (x7_2 + (shl .u64 (Int.tmod (IntKind.u64.wrap (bt a0 (wrap64 (a1 + x8_2)))) 128) (wrap64 (7 * x8_2))))) 2))))) - 1))).bind fun bt148 => (if bt148.2 = 0 then (if 0 ≤ a1 then (if a1 ≤ (wrap64 ((wrap64 (a1 + x8_2)) + 1)) then (if (wrap64 ((wrap64 (a1 + x8_2)) + 1)) ≤ (a0.size : Int) then (if bt148.1.toList = (a0.extract (a1 : Int).toNat ((wrap64 ((wrap64 (a1 + x8_2)) + 1)) : Int).toNat).toList then (some (wrap64 ((wrap64 (-(wrap64 (IntKind.u64.wrap (Int.tdiv (IntKind.u64.wrap (x7_2 + (shl .u64 (Int.tmod (IntKind.u64.wrap (bt a0 (wrap64 (a1 + x8_2)))) 128) (wrap64 (7 * x8_2))))) 2))))) - 1), wrap64 ((wrap64 (a1 + x8_2)) + 1), 0)) else (some (0, 0, 10))) else (none)) else (none)) else (none)) else (some (0, 0, 10)))) else ((workpieceref01_PutInt.f kj5 (wrap64 (IntKind.u64.wrap (Int.tdiv (IntKind.u64.wrap (x7_2 + (shl .u64 (Int.tmod (IntKind.u64.wrap (bt a0 (wrap64 (a1 + x8_2)))) 128) (wrap64 (7 * x8_2))))) 2)))).bind fun bt150 => (if bt150.2 = 0 then (if 0 ≤ a1 then (if a1 ≤ (wrap64 ((wrap64 (a1 + x8_2)) + 1)) then (if (wrap64 ((wrap64 (a1 + x8_2)) + 1)) ≤ (a0.size : Int) then (if bt150.1.toList = (a0.extract (a1 : Int).toNat ((wrap64 ((wrap64 (a1 + x8_2)) + 1)) : Int).toNat).toList then (some (wrap64 (IntKind.u64.wrap (Int.tdiv (IntKind.u64.wrap (x7_2 + (shl .u64 (Int.tmod (IntKind.u64.wrap (bt a0 (wrap64 (a1 + x8_2)))) 128) (wrap64 (7 * x8_2))))) 2)), wrap64 ((wrap64 (a1 + x8_2)) + 1), 0)) else (some (0, 0, 10))) else (none)) else (none)) else (none)) else (some (0, 0, 10)))))) else (none)) else (none)) else (none)) = some (r1, r2, r3) := by rw [if_pos rfl] at H; exact H
                  clear H
                  have H := H1
                  clear H1
                  obtain ⟨ji9, hji9⟩ : ∃ j_ : Int, (wrap64 (a1 + x8_2)) = j_ := ⟨_, rfl⟩
                  replace H : (if 0 ≤ (ji9) then (if (ji9) < (a0.size : Int) then (if 0 ≤ (wrap64 (7 * x8_2)) then (if (IntKind.u64.wrap (bt a0 (ji9))) ≥ 128 then (workpieceref01_Int.l0 kj5 a0 a1 (IntKind.u64.wrap (x7_2 + (shl .u64 (Int.tmod (IntKind.u64.wrap (bt a0 (ji9))) 128) (wrap64 (7 * x8_2))))) (wrap64 (x8_2 + 1))) else (if (Int.tmod (IntKind.u64.wrap (x7_2 + (shl .u64 (Int.tmod (IntKind.u64.wrap (bt a0 (ji9))) 128) (wrap64 (7 * x8_2))))) 2) = 1 then ((workpieceref01_PutInt.f kj5 (wrap64 ((wrap64 (-(wrap64 (IntKind.u64.wrap (Int.tdiv (IntKind.u64.wrap (x7_2 + (shl .u64 (Int.tmod (IntKind.u64.wrap (bt a0 (ji9))) 128) (wrap64 (7 * x8_2))))) 2))))) - 1))).bind fun bt148 => (if bt148.2 = 0 then (if 0 ≤ a1 then (if a1 ≤ (wrap64 ((ji9) + 1)) then (if (wrap64 ((ji9) + 1)) ≤ (a0.size : Int) then (if bt148.1.toList = (a0.extract (a1 : Int).toNat ((wrap64 ((ji9) + 1)) : Int).toNat).toList then (some (wrap64 ((wrap64 (-(wrap64 (IntKind.u64.wrap (Int.tdiv (IntKind.u64.wrap (x7_2 + (shl .u64 (Int.tmod (IntKind.u64.wrap (bt a0 (ji9))) 128) (wrap64 (7 * x8_2))))) 2))))) - 1), wrap64 ((ji9) + 1), 0)) else (some (0, 0, 10))) else (none)) else (none)) else (none)) else (some (0, 0, 10)))) else ((workpieceref01_PutInt.f kj5 (wrap64 (IntKind.u64.wrap (Int.tdiv (IntKind.u64.wrap (x7_2 + (shl .u64 (Int.tmod (IntKind.u64.wrap (bt a0 (ji9))) 128) (wrap64 (7 * x8_2))))) 2)))).bind fun bt150 => (if bt150.2 = 0 then (if 0 ≤ a1 then (if a1 ≤ (wrap64 ((ji9) + 1)) then (if (wrap64 ((ji9) + 1)) ≤ (a0.size : Int) then (if bt150.1.toList = (a0.extract (a1 : Int).toNat ((wrap64 ((ji9) + 1)) : Int).toNat).toList then (some (wrap64 (IntKind.u64.wrap (Int.tdiv (IntKind.u64.wrap (x7_2 + (shl .u64 (Int.tmod (IntKind.u64.wrap (bt a0 (ji9))) 128) (wrap64 (7 * x8_2))))) 2)), wrap64 ((ji9) + 1), 0)) else (some (0, 0, 10))) else (none)) else (none)) else (none)) else (some (0, 0, 10)))))) else (none)) else (none)) else (none)) = some (r1, r2, r3) := by first | (rw [hji9] at H; exact H) | (simp only [hji9] at H ⊢; exact H)
                  have hji9w : (IntKind.i64.wrap (a1 + x8_2)) = ji9 := (i64_w _).trans hji9
                  by_cases c10 : 0 ≤ (ji9)
                  · rw [if_pos c10] at H
                    have c10b0 : decide (0 ≤ (ji9)) = true := decide_eq_true c10
                    clear c10
                    by_cases c11 : (ji9) < (a0.size : Int)
                    · rw [if_pos c11] at H
                      have c11b0 : decide ((ji9) < (a0.size : Int)) = true := decide_eq_true c11
                      clear c11
                      obtain ⟨ji13, hji13⟩ : ∃ j_ : Int, (wrap64 (7 * x8_2)) = j_ := ⟨_, rfl⟩
                      replace H : (if 0 ≤ (ji13) then (if (IntKind.u64.wrap (bt a0 (ji9))) ≥ 128 then (workpieceref01_Int.l0 kj5 a0 a1 (IntKind.u64.wrap (x7_2 + (shl .u64 (Int.tmod (IntKind.u64.wrap (bt a0 (ji9))) 128) (ji13)))) (wrap64 (x8_2 + 1))) else (if (Int.tmod (IntKind.u64.wrap (x7_2 + (shl .u64 (Int.tmod (IntKind.u64.wrap (bt a0 (ji9))) 128) (ji13)))) 2) = 1 then ((workpieceref01_PutInt.f kj5 (wrap64 ((wrap64 (-(wrap64 (IntKind.u64.wrap (Int.tdiv (IntKind.u64.wrap (x7_2 + (shl .u64 (Int.tmod (IntKind.u64.wrap (bt a0 (ji9))) 128) (ji13)))) 2))))) - 1))).bind fun bt148 => (if bt148.2 = 0 then (if 0 ≤ a1 then (if a1 ≤ (wrap64 ((ji9) + 1)) then (if (wrap64 ((ji9) + 1)) ≤ (a0.size : Int) then (if bt148.1.toList = (a0.extract (a1 : Int).toNat ((wrap64 ((ji9) + 1)) : Int).toNat).toList then (some (wrap64 ((wrap64 (-(wrap64 (IntKind.u64.wrap (Int.tdiv (IntKind.u64.wrap (x7_2 + (shl .u64 (Int.tmod (IntKind.u64.wrap (bt a0 (ji9))) 128) (ji13)))) 2))))) - 1), wrap64 ((ji9) + 1), 0)) else (some (0, 0, 10))) else (none)) else (none)) else (none)) else (some (0, 0, 10)))) else ((workpieceref01_PutInt.f kj5 (wrap64 (IntKind.u64.wrap (Int.tdiv (IntKind.u64.wrap (x7_2 + (shl .u64 (Int.tmod (IntKind.u64.wrap (bt a0 (ji9))) 128) (ji13)))) 2)))).bind fun bt150 => (if bt150.2 = 0 then (if 0 ≤ a1 then (if a1 ≤ (wrap64 ((ji9) + 1)) then (if (wrap64 ((ji9) + 1)) ≤ (a0.size : Int) then (if bt150.1.toList = (a0.extract (a1 : Int).toNat ((wrap64 ((ji9) + 1)) : Int).toNat).toList then (some (wrap64 (IntKind.u64.wrap (Int.tdiv (IntKind.u64.wrap (x7_2 + (shl .u64 (Int.tmod (IntKind.u64.wrap (bt a0 (ji9))) 128) (ji13)))) 2)), wrap64 ((ji9) + 1), 0)) else (some (0, 0, 10))) else (none)) else (none)) else (none)) else (some (0, 0, 10)))))) else (none)) = some (r1, r2, r3) := by first | (rw [hji13] at H; exact H) | (simp only [hji13] at H ⊢; exact H)
                      have hji13w : (IntKind.i64.wrap (7 * x8_2)) = ji13 := (i64_w _).trans hji13
                      by_cases c14 : 0 ≤ (ji13)
                      · rw [if_pos c14] at H
                        have c14b0 := eq_true c14
                        have c14b1 : decide (0 ≤ (ji13)) = true := decide_eq_true c14
                        clear c14
                        obtain ⟨ji15, hji15⟩ : ∃ j_ : Int, (shl .u64 (Int.tmod (IntKind.u64.wrap (bt a0 (ji9))) 128) (ji13)) = j_ := ⟨_, rfl⟩
                        replace H : (if (IntKind.u64.wrap (bt a0 (ji9))) ≥ 128 then (workpieceref01_Int.l0 kj5 a0 a1 (IntKind.u64.wrap (x7_2 + (ji15))) (wrap64 (x8_2 + 1))) else (if (Int.tmod (IntKind.u64.wrap (x7_2 + (ji15))) 2) = 1 then ((workpieceref01_PutInt.f kj5 (wrap64 ((wrap64 (-(wrap64 (IntKind.u64.wrap (Int.tdiv (IntKind.u64.wrap (x7_2 + (ji15))) 2))))) - 1))).bind fun bt148 => (if bt148.2 = 0 then (if 0 ≤ a1 then (if a1 ≤ (wrap64 ((ji9) + 1)) then (if (wrap64 ((ji9) + 1)) ≤ (a0.size : Int) then (if bt148.1.toList = (a0.extract (a1 : Int).toNat ((wrap64 ((ji9) + 1)) : Int).toNat).toList then (some (wrap64 ((wrap64 (-(wrap64 (IntKind.u64.wrap (Int.tdiv (IntKind.u64.wrap (x7_2 + (ji15))) 2))))) - 1), wrap64 ((ji9) + 1), 0)) else (some (0, 0, 10))) else (none)) else (none)) else (none)) else (some (0, 0, 10)))) else ((workpieceref01_PutInt.f kj5 (wrap64 (IntKind.u64.wrap (Int.tdiv (IntKind.u64.wrap (x7_2 + (ji15))) 2)))).bind fun bt150 => (if bt150.2 = 0 then (if 0 ≤ a1 then (if a1 ≤ (wrap64 ((ji9) + 1)) then (if (wrap64 ((ji9) + 1)) ≤ (a0.size : Int) then (if bt150.1.toList = (a0.extract (a1 : Int).toNat ((wrap64 ((ji9) + 1)) : Int).toNat).toList then (some (wrap64 (IntKind.u64.wrap (Int.tdiv (IntKind.u64.wrap (x7_2 + (ji15))) 2)), wrap64 ((ji9) + 1), 0)) else (some (0, 0, 10))) else (none)) else (none)) else (none)) else (some (0, 0, 10)))))) = some (r1, r2, r3) := by first | (rw [hji15] at H; exact H) | (simp only [hji15] at H ⊢; exact H)
                        have hji15_ : (IntKind.u64.wrap ((Int.tmod (IntKind.u64.wrap (bt a0 (ji9))) 128) * 2 ^ min (ji13).toNat 64)) = ji15 := hji15
                        have hji15z : (ji13) ≤ 64 → (IntKind.u64.wrap ((Int.tmod (IntKind.u64.wrap (bt a0 (ji9))) 128) * 2 ^ (ji13).toNat)) = ji15 := shl_small hji15
                        by_cases c16 : (IntKind.u64.wrap (bt a0 (ji9))) ≥ 128
                        · rw [if_pos c16] at H
                          have c16b0 : decide (128 ≤ (IntKind.u64.wrap (bt a0 (ji9)))) = true := decide_eq_true c16
                          clear c16
                          have H' := Aside0.mk H
                          clear H
                          have p12 : 0 ≤ ((ji9) : Int) := of_decide_eq_true (by first | (with_reducible assumption) | assumption)
                          have q12 : (ji9) < (a0.size : Int) := of_decide_eq_true (by first | (with_reducible assumption) | assumption)
                          have hx12 := bt_at a0 (ji9)
                          replace p12 := eq_true p12
                          replace q12 := eq_true q12
                          go_wp2
                          go_roundg kj5
                          case measure => have := HJ2.out; have := HK2.out; have := HJ5.out; omega
                          case rel => exact ⟨(IntKind.u64.wrap (x7_2 + (ji15))), (wrap64 (x8_2 + 1)), (by first | rfl | (simp; done) | (simp only [← hji15] <;> (first | rfl | simp)) | (simp [*]; done)), (by first | rfl | (simp; done) | (simp [*]; done)), H', ⟨by have := HJ2.out; have := HK2.out; have := HJ5.out; omega⟩, ⟨by repeat (first | (with_reducible first | exact HB.out | apply below_alloc | apply pw_below_drewN | apply below_drew1) | exact HB.out)⟩⟩
                        · rw [if_neg c16] at H
                          have c16b0 : decide (128 ≤ (IntKind.u64.wrap (bt a0 (ji9)))) = false := decide_eq_false c16
                          clear c16
                          by_cases c17 : (Int.tmod (IntKind.u64.wrap (x7_2 + (ji15))) 2) = 1
                          · rw [if_pos c17] at H
                            have c17b0 : ((Int.tmod (IntKind.u64.wrap (x7_2 + (ji15))) 2) == 1) = true := beq_iff_eq.mpr c17
                            have c17b1 : ((Int.tmod (IntKind.u64.wrap (x7_2 + (ji15))) 2) != 1) = false := bne_eq_false_iff_eq.mpr c17
                            clear c17
                            replace H := Option.bind_eq_some_iff.mp H
                            obtain ⟨⟨t148, t149⟩, A180, H⟩ := H
                            replace H : (if t149 = 0 then (if 0 ≤ a1 then (if a1 ≤ (wrap64 ((ji9) + 1)) then (if (wrap64 ((ji9) + 1)) ≤ (a0.size : Int) then (if t148.toList = (a0.extract (a1 : Int).toNat ((wrap64 ((ji9) + 1)) : Int).toNat).toList then (some (wrap64 ((wrap64 (-(wrap64 (IntKind.u64.wrap (Int.tdiv (IntKind.u64.wrap (x7_2 + (ji15))) 2))))) - 1), wrap64 ((ji9) + 1), 0)) else (some (0, 0, 10))) else (none)) else (none)) else (none)) else (some (0, 0, 10))) = some (r1, r2, r3) := H
                            have A18 := Aside0.mk A180
                            clear A180
                            by_cases c19 : t149 = 0
                            · rw [if_pos c19] at H
                              have c19b0 : (t149 == 0) = true := beq_iff_eq.mpr c19
                              have c19b1 : (t149 != 0) = false := bne_eq_false_iff_eq.mpr c19
                              clear c19
                              by_cases c20 : 0 ≤ a1
                              · rw [if_pos c20] at H
                                have c20b0 := eq_true c20
                                have c20b1 : decide (0 ≤ a1) = true := decide_eq_true c20
                                clear c20
                                by_cases c21 : a1 ≤ (wrap64 ((ji9) + 1))
                                · rw [if_pos c21] at H
                                  have c21b0 := eq_true c21
                                  have c21b1 : decide (a1 ≤ (wrap64 ((ji9) + 1))) = true := decide_eq_true c21
                                  by_cases c22 : (wrap64 ((ji9) + 1)) ≤ (a0.size : Int)
                                  · rw [if_pos c22] at H
                                    have c22b0 := eq_true c22
                                    have c22b1 : decide ((wrap64 ((ji9) + 1)) ≤ (a0.size : Int)) = true := decide_eq_true c22
                                    by_cases c23 : t148.toList = (a0.extract (a1 : Int).toNat ((wrap64 ((ji9) + 1)) : Int).toNat).toList
                                    · rw [if_pos c23] at H
                                      have c23b0 : (t148.toList == (a0.extract (a1 : Int).toNat ((wrap64 ((ji9) + 1)) : Int).toNat).toList) = true := beq_iff_eq.mpr c23
                                      have c23b1 : (t148.toList != (a0.extract (a1 : Int).toNat ((wrap64 ((ji9) + 1)) : Int).toNat).toList) = false := bne_eq_false_iff_eq.mpr c23
                                      clear c23
                                      simp only [Option.some.injEq, Prod.mk.injEq] at H
                                      obtain ⟨rfl, rfl, rfl⟩ := H
                                      have p12 : 0 ≤ ((ji9) : Int) := of_decide_eq_true (by first | (with_reducible assumption) | assumption)
                                      have q12 : (ji9) < (a0.size : Int) := of_decide_eq_true (by first | (with_reducible assumption) | assumption)
                                      have hx12 := bt_at a0 (ji9)
                                      replace p12 := eq_true p12
                                      replace q12 := eq_true q12
                                      go_wp2_with (first | ((with_reducible refine gate_callee (f := 13) rfl ?_); refine goesL_ (some 59) rfl rfl Tryd.func13 (by kernel_rfl) rfl #[.int .i64 (wrap64 ((wrap64 (-(wrap64 (IntKind.u64.wrap (Int.tdiv (IntKind.u64.wrap (x7_2 + (ji15))) 2))))) - 1))] rfl (by (try simp only [List.map_toArray, List.map_cons, List.map_nil]); first | done | (simp only [hji15]; rfl) | rfl | (simp only [List.length_drop, List.length_take]; rfl)) ?_; (with_reducible refine (workpieceref01_PutInt.calls kj5 (wrap64 ((wrap64 (-(wrap64 (IntKind.u64.wrap (Int.tdiv (IntKind.u64.wrap (x7_2 + (ji15))) 2))))) - 1)) t148 t149 _ A18.out).mono ?_); rintro e w24 ⟨rfl, hb⟩; refine ⟨_, rfl, ?_⟩; have n0_ := Aside0.mk (below_step (by repeat (first | (with_reducible first | exact HB.out | apply below_alloc | apply pw_below_drewN | apply below_drew1) | exact HB.out)) hb); clear HB; have HB := n0_; clear n0_; (try clear hb); (try clear hb2); (try clear hk); (try clear hi)))
                                      go_ret3
                                      exact ⟨by first | rfl | (simp [errW_none, errW_some] <;> rfl) | (simp only [← hji9, ← hji13, ← hji15]; first | rfl | (simp [errW_none, errW_some] <;> rfl)) | (simp [*, errW_none, errW_some] <;> rfl), by repeat (first | (with_reducible first | exact HB.out | apply below_alloc | apply pw_below_drewN | apply below_drew1) | exact HB.out)⟩
                                    · rw [if_neg c23] at H
                                      have c23b0 : (t148.toList == (a0.extract (a1 : Int).toNat ((wrap64 ((ji9) + 1)) : Int).toNat).toList) = false := beq_eq_false_iff_ne.mpr c23
                                      have c23b1 : (t148.toList != (a0.extract (a1 : Int).toNat ((wrap64 ((ji9) + 1)) : Int).toNat).toList) = true := bne_iff_ne.mpr c23
                                      simp only [Option.some.injEq, Prod.mk.injEq] at H
                                      obtain ⟨rfl, rfl, rfl⟩ := H
                                      have p12 : 0 ≤ ((ji9) : Int) := of_decide_eq_true (by first | (with_reducible assumption) | assumption)
                                      have q12 : (ji9) < (a0.size : Int) := of_decide_eq_true (by first | (with_reducible assumption) | assumption)
                                      have hx12 := bt_at a0 (ji9)
                                      replace p12 := eq_true p12
                                      replace q12 := eq_true q12
                                      go_wp2_with (first | ((with_reducible refine gate_callee (f := 13) rfl ?_); refine goesL_ (some 59) rfl rfl Tryd.func13 (by kernel_rfl) rfl #[.int .i64 (wrap64 ((wrap64 (-(wrap64 (IntKind.u64.wrap (Int.tdiv (IntKind.u64.wrap (x7_2 + (ji15))) 2))))) - 1))] rfl (by (try simp only [List.map_toArray, List.map_cons, List.map_nil]); first | done | (simp only [hji15]; rfl) | rfl | (simp only [List.length_drop, List.length_take]; rfl)) ?_; (with_reducible refine (workpieceref01_PutInt.calls kj5 (wrap64 ((wrap64 (-(wrap64 (IntKind.u64.wrap (Int.tdiv (IntKind.u64.wrap (x7_2 + (ji15))) 2))))) - 1)) t148 t149 _ A18.out).mono ?_); rintro e w25 ⟨rfl, hb⟩; refine ⟨_, rfl, ?_⟩; have n0_ := Aside0.mk (below_step (by repeat (first | (with_reducible first | exact HB.out | apply below_alloc | apply pw_below_drewN | apply below_drew1) | exact HB.out)) hb); clear HB; have HB := n0_; clear n0_; (try clear hb); (try clear hb2); (try clear hk); (try clear hi)))
                                      go_ret3
                                      exact ⟨by first | rfl | (simp [errW_none, errW_some] <;> rfl) | (simp only [← hji9, ← hji13, ← hji15]; first | rfl | (simp [errW_none, errW_some] <;> rfl)) | (simp [*, errW_none, errW_some] <;> rfl), by repeat (first | (with_reducible first | exact HB.out | apply below_alloc | apply pw_below_drewN | apply below_drew1) | exact HB.out)⟩
                                  · rw [if_neg c22] at H
                                    exact absurd H (by simp)
                                · rw [if_neg c21] at H
                                  exact absurd H (by simp)
                              · rw [if_neg c20] at H
                                exact absurd H (by simp)
                            · rw [if_neg c19] at H
                              have c19b0 : (t149 == 0) = false := beq_eq_false_iff_ne.mpr c19
                              have c19b1 : (t149 != 0) = true := bne_iff_ne.mpr c19
                              simp only [Option.some.injEq, Prod.mk.injEq] at H
                              obtain ⟨rfl, rfl, rfl⟩ := H
                              have p12 : 0 ≤ ((ji9) : Int) := of_decide_eq_true (by first | (with_reducible assumption) | assumption)
                              have q12 : (ji9) < (a0.size : Int) := of_decide_eq_true (by first | (with_reducible assumption) | assumption)
                              have hx12 := bt_at a0 (ji9)
                              replace p12 := eq_true p12
                              replace q12 := eq_true q12
                              go_wp2_with (first | ((with_reducible refine gate_callee (f := 13) rfl ?_); refine goesL_ (some 59) rfl rfl Tryd.func13 (by kernel_rfl) rfl #[.int .i64 (wrap64 ((wrap64 (-(wrap64 (IntKind.u64.wrap (Int.tdiv (IntKind.u64.wrap (x7_2 + (ji15))) 2))))) - 1))] rfl (by (try simp only [List.map_toArray, List.map_cons, List.map_nil]); first | done | (simp only [hji15]; rfl) | rfl | (simp only [List.length_drop, List.length_take]; rfl)) ?_; (with_reducible refine (workpieceref01_PutInt.calls kj5 (wrap64 ((wrap64 (-(wrap64 (IntKind.u64.wrap (Int.tdiv (IntKind.u64.wrap (x7_2 + (ji15))) 2))))) - 1)) t148 t149 _ A18.out).mono ?_); rintro e w26 ⟨rfl, hb⟩; refine ⟨_, rfl, ?_⟩; have n0_ := Aside0.mk (below_step (by repeat (first | (with_reducible first | exact HB.out | apply below_alloc | apply pw_below_drewN | apply below_drew1) | exact HB.out)) hb); clear HB; have HB := n0_; clear n0_; (try clear hb); (try clear hb2); (try clear hk); (try clear hi)))
                              go_ret3
                              exact ⟨by first | rfl | (simp [errW_none, errW_some] <;> rfl) | (simp only [← hji9, ← hji13, ← hji15]; first | rfl | (simp [errW_none, errW_some] <;> rfl)) | (simp [*, errW_none, errW_some] <;> rfl), by repeat (first | (with_reducible first | exact HB.out | apply below_alloc | apply pw_below_drewN | apply below_drew1) | exact HB.out)⟩
                          · rw [if_neg c17] at H
                            have c17b0 : ((Int.tmod (IntKind.u64.wrap (x7_2 + (ji15))) 2) == 1) = false := beq_eq_false_iff_ne.mpr c17
                            have c17b1 : ((Int.tmod (IntKind.u64.wrap (x7_2 + (ji15))) 2) != 1) = true := bne_iff_ne.mpr c17
                            replace H := Option.bind_eq_some_iff.mp H
                            obtain ⟨⟨t150, t151⟩, A270, H⟩ := H
                            replace H : (if t151 = 0 then (if 0 ≤ a1 then (if a1 ≤ (wrap64 ((ji9) + 1)) then (if (wrap64 ((ji9) + 1)) ≤ (a0.size : Int) then (if t150.toList = (a0.extract (a1 : Int).toNat ((wrap64 ((ji9) + 1)) : Int).toNat).toList then (some (wrap64 (IntKind.u64.wrap (Int.tdiv (IntKind.u64.wrap (x7_2 + (ji15))) 2)), wrap64 ((ji9) + 1), 0)) else (some (0, 0, 10))) else (none)) else (none)) else (none)) else (some (0, 0, 10))) = some (r1, r2, r3) := H
                            have A27 := Aside0.mk A270
                            clear A270
                            by_cases c28 : t151 = 0
                            · rw [if_pos c28] at H
                              have c28b0 : (t151 == 0) = true := beq_iff_eq.mpr c28
                              have c28b1 : (t151 != 0) = false := bne_eq_false_iff_eq.mpr c28
                              clear c28
                              by_cases c29 : 0 ≤ a1
                              · rw [if_pos c29] at H
                                have c29b0 := eq_true c29
                                have c29b1 : decide (0 ≤ a1) = true := decide_eq_true c29
                                clear c29
                                by_cases c30 : a1 ≤ (wrap64 ((ji9) + 1))
                                · rw [if_pos c30] at H
                                  have c30b0 := eq_true c30
                                  have c30b1 : decide (a1 ≤ (wrap64 ((ji9) + 1))) = true := decide_eq_true c30
                                  by_cases c31 : (wrap64 ((ji9) + 1)) ≤ (a0.size : Int)
                                  · rw [if_pos c31] at H
                                    have c31b0 := eq_true c31
                                    have c31b1 : decide ((wrap64 ((ji9) + 1)) ≤ (a0.size : Int)) = true := decide_eq_true c31
                                    by_cases c32 : t150.toList = (a0.extract (a1 : Int).toNat ((wrap64 ((ji9) + 1)) : Int).toNat).toList
                                    · rw [if_pos c32] at H
                                      have c32b0 : (t150.toList == (a0.extract (a1 : Int).toNat ((wrap64 ((ji9) + 1)) : Int).toNat).toList) = true := beq_iff_eq.mpr c32
                                      have c32b1 : (t150.toList != (a0.extract (a1 : Int).toNat ((wrap64 ((ji9) + 1)) : Int).toNat).toList) = false := bne_eq_false_iff_eq.mpr c32
                                      clear c32
                                      simp only [Option.some.injEq, Prod.mk.injEq] at H
                                      obtain ⟨rfl, rfl, rfl⟩ := H
                                      have p12 : 0 ≤ ((ji9) : Int) := of_decide_eq_true (by first | (with_reducible assumption) | assumption)
                                      have q12 : (ji9) < (a0.size : Int) := of_decide_eq_true (by first | (with_reducible assumption) | assumption)
                                      have hx12 := bt_at a0 (ji9)
                                      replace p12 := eq_true p12
                                      replace q12 := eq_true q12
                                      go_wp2_with (first | ((with_reducible refine gate_callee (f := 13) rfl ?_); refine goesL_ (some 59) rfl rfl Tryd.func13 (by kernel_rfl) rfl #[.int .i64 (wrap64 (IntKind.u64.wrap (Int.tdiv (IntKind.u64.wrap (x7_2 + (ji15))) 2)))] rfl (by (try simp only [List.map_toArray, List.map_cons, List.map_nil]); first | done | (simp only [hji15]; rfl) | rfl | (simp only [List.length_drop, List.length_take]; rfl)) ?_; (with_reducible refine (workpieceref01_PutInt.calls kj5 (wrap64 (IntKind.u64.wrap (Int.tdiv (IntKind.u64.wrap (x7_2 + (ji15))) 2))) t150 t151 _ A27.out).mono ?_); rintro e w33 ⟨rfl, hb⟩; refine ⟨_, rfl, ?_⟩; have n0_ := Aside0.mk (below_step (by repeat (first | (with_reducible first | exact HB.out | apply below_alloc | apply pw_below_drewN | apply below_drew1) | exact HB.out)) hb); clear HB; have HB := n0_; clear n0_; (try clear hb); (try clear hb2); (try clear hk); (try clear hi)))
                                      go_ret3
                                      exact ⟨by first | rfl | (simp [errW_none, errW_some] <;> rfl) | (simp only [← hji9, ← hji13, ← hji15]; first | rfl | (simp [errW_none, errW_some] <;> rfl)) | (simp [*, errW_none, errW_some] <;> rfl), by repeat (first | (with_reducible first | exact HB.out | apply below_alloc | apply pw_below_drewN | apply below_drew1) | exact HB.out)⟩
                                    · rw [if_neg c32] at H
                                      have c32b0 : (t150.toList == (a0.extract (a1 : Int).toNat ((wrap64 ((ji9) + 1)) : Int).toNat).toList) = false := beq_eq_false_iff_ne.mpr c32
                                      have c32b1 : (t150.toList != (a0.extract (a1 : Int).toNat ((wrap64 ((ji9) + 1)) : Int).toNat).toList) = true := bne_iff_ne.mpr c32
                                      simp only [Option.some.injEq, Prod.mk.injEq] at H
                                      obtain ⟨rfl, rfl, rfl⟩ := H
                                      have p12 : 0 ≤ ((ji9) : Int) := of_decide_eq_true (by first | (with_reducible assumption) | assumption)
                                      have q12 : (ji9) < (a0.size : Int) := of_decide_eq_true (by first | (with_reducible assumption) | assumption)
                                      have hx12 := bt_at a0 (ji9)
                                      replace p12 := eq_true p12
                                      replace q12 := eq_true q12
                                      go_wp2_with (first | ((with_reducible refine gate_callee (f := 13) rfl ?_); refine goesL_ (some 59) rfl rfl Tryd.func13 (by kernel_rfl) rfl #[.int .i64 (wrap64 (IntKind.u64.wrap (Int.tdiv (IntKind.u64.wrap (x7_2 + (ji15))) 2)))] rfl (by (try simp only [List.map_toArray, List.map_cons, List.map_nil]); first | done | (simp only [hji15]; rfl) | rfl | (simp only [List.length_drop, List.length_take]; rfl)) ?_; (with_reducible refine (workpieceref01_PutInt.calls kj5 (wrap64 (IntKind.u64.wrap (Int.tdiv (IntKind.u64.wrap (x7_2 + (ji15))) 2))) t150 t151 _ A27.out).mono ?_); rintro e w34 ⟨rfl, hb⟩; refine ⟨_, rfl, ?_⟩; have n0_ := Aside0.mk (below_step (by repeat (first | (with_reducible first | exact HB.out | apply below_alloc | apply pw_below_drewN | apply below_drew1) | exact HB.out)) hb); clear HB; have HB := n0_; clear n0_; (try clear hb); (try clear hb2); (try clear hk); (try clear hi)))
                                      go_ret3
                                      exact ⟨by first | rfl | (simp [errW_none, errW_some] <;> rfl) | (simp only [← hji9, ← hji13, ← hji15]; first | rfl | (simp [errW_none, errW_some] <;> rfl)) | (simp [*, errW_none, errW_some] <;> rfl), by repeat (first | (with_reducible first | exact HB.out | apply below_alloc | apply pw_below_drewN | apply below_drew1) | exact HB.out)⟩
                                  · rw [if_neg c31] at H
                                    exact absurd H (by simp)
                                · rw [if_neg c30] at H
                                  exact absurd H (by simp)
                              · rw [if_neg c29] at H
                                exact absurd H (by simp)
                            · rw [if_neg c28] at H
                              have c28b0 : (t151 == 0) = false := beq_eq_false_iff_ne.mpr c28
                              have c28b1 : (t151 != 0) = true := bne_iff_ne.mpr c28
                              simp only [Option.some.injEq, Prod.mk.injEq] at H
                              obtain ⟨rfl, rfl, rfl⟩ := H
                              have p12 : 0 ≤ ((ji9) : Int) := of_decide_eq_true (by first | (with_reducible assumption) | assumption)
                              have q12 : (ji9) < (a0.size : Int) := of_decide_eq_true (by first | (with_reducible assumption) | assumption)
                              have hx12 := bt_at a0 (ji9)
                              replace p12 := eq_true p12
                              replace q12 := eq_true q12
                              go_wp2_with (first | ((with_reducible refine gate_callee (f := 13) rfl ?_); refine goesL_ (some 59) rfl rfl Tryd.func13 (by kernel_rfl) rfl #[.int .i64 (wrap64 (IntKind.u64.wrap (Int.tdiv (IntKind.u64.wrap (x7_2 + (ji15))) 2)))] rfl (by (try simp only [List.map_toArray, List.map_cons, List.map_nil]); first | done | (simp only [hji15]; rfl) | rfl | (simp only [List.length_drop, List.length_take]; rfl)) ?_; (with_reducible refine (workpieceref01_PutInt.calls kj5 (wrap64 (IntKind.u64.wrap (Int.tdiv (IntKind.u64.wrap (x7_2 + (ji15))) 2))) t150 t151 _ A27.out).mono ?_); rintro e w35 ⟨rfl, hb⟩; refine ⟨_, rfl, ?_⟩; have n0_ := Aside0.mk (below_step (by repeat (first | (with_reducible first | exact HB.out | apply below_alloc | apply pw_below_drewN | apply below_drew1) | exact HB.out)) hb); clear HB; have HB := n0_; clear n0_; (try clear hb); (try clear hb2); (try clear hk); (try clear hi)))
                              go_ret3
                              exact ⟨by first | rfl | (simp [errW_none, errW_some] <;> rfl) | (simp only [← hji9, ← hji13, ← hji15]; first | rfl | (simp [errW_none, errW_some] <;> rfl)) | (simp [*, errW_none, errW_some] <;> rfl), by repeat (first | (with_reducible first | exact HB.out | apply below_alloc | apply pw_below_drewN | apply below_drew1) | exact HB.out)⟩
                      · rw [if_neg c14] at H
                        exact absurd H (by simp)
                    · rw [if_neg c11] at H
                      exact absurd H (by simp)
                  · rw [if_neg c10] at H
                    exact absurd H (by simp)
                · replace c8 := Bool.eq_false_iff.mpr c8
                  subst c8
                  have H1 : (some (0, 0, 10)) = some (r1, r2, r3) := by rw [if_neg (show ¬ (false = true) by decide)] at H; exact H
                  clear H
                  have H := H1
                  clear H1
                  simp only [Option.some.injEq, Prod.mk.injEq] at H
                  obtain ⟨rfl, rfl, rfl⟩ := H
                  go_wp2
                  go_ret3
                  exact ⟨by first | rfl | (simp [errW_none, errW_some] <;> rfl) | (simp [*, errW_none, errW_some] <;> rfl), by repeat (first | (with_reducible first | exact HB.out | apply below_alloc | apply pw_below_drewN | apply below_drew1) | exact HB.out)⟩

/-! ### workpieceref01_String: function 18 -/
def workpieceref01_String.f (k : Nat) (a0 : ByteArray) (a1 : Int) : Option (ByteArray × Int × Int) := (workpieceref01_Int.f k a0 a1).bind fun bt152 => (if bt152.2.2 = 0 then (if bt152.1 < 0 then (some ((⟨#[]⟩ : ByteArray), 0, 10)) else (if bt152.1 > 65536 then (some ((⟨#[]⟩ : ByteArray), 0, 10)) else (if bt152.1 > (wrap64 ((a0.size : Int) - bt152.2.1)) then (some ((⟨#[]⟩ : ByteArray), 0, 10)) else (if 0 ≤ bt152.2.1 then (if bt152.2.1 ≤ (wrap64 (bt152.2.1 + bt152.1)) then (if (wrap64 (bt152.2.1 + bt152.1)) ≤ (a0.size : Int) then (some (a0.extract (bt152.2.1 : Int).toNat ((wrap64 (bt152.2.1 + bt152.1)) : Int).toNat, wrap64 (bt152.2.1 + bt152.1), 0)) else (none)) else (none)) else (none))))) else (some ((⟨#[]⟩ : ByteArray), 0, bt152.2.2)))
theorem workpieceref01_String.mono : ∀ a0 a1 k, LeO (workpieceref01_String.f k a0 a1) (workpieceref01_String.f (k + 1) a0 a1) := by
  intro a0 a1 k
  unfold workpieceref01_String.f
  repeat' first
      | (with_reducible exact workpieceref01_Int.mono _ _ _)
      | (with_reducible exact LeO.refl _)
      | (with_reducible exact LeO.none _)
      | (with_reducible refine LeO.ite ?_ ?_)
      | (with_reducible refine LeO.bind ?_ (fun _ => ?_))
      | exact workpieceref01_Int.mono _ _ _
      | exact LeO.none _
      | refine LeO.ite ?_ ?_
      | refine LeO.bind ?_ (fun _ => ?_)
set_option maxHeartbeats 8000000 in
set_option maxRecDepth 100000 in
theorem workpieceref01_String.calls (k : Nat) (a0 : ByteArray) (a1 : Int) (r1 : ByteArray) (r2 : Int) (r3 : Int) (w : World) (h : workpieceref01_String.f k a0 a1 = some (r1, r2, r3)) :
    Calls Tryd.prog 18 #[.string a0, .int .i64 a1] w fun e w' => e = .returned (.tuple #[.string r1, .int .i64 r2, .int .i64 r3]) ∧ Below w.heap.size w w' := by
  have HB := Aside0.mk (Below.refl w.heap.size w)
  have H : ((workpieceref01_Int.f k a0 a1).bind fun bt152 => (if bt152.2.2 = 0 then (if bt152.1 < 0 then (some ((⟨#[]⟩ : ByteArray), 0, 10)) else (if bt152.1 > 65536 then (some ((⟨#[]⟩ : ByteArray), 0, 10)) else (if bt152.1 > (wrap64 ((a0.size : Int) - bt152.2.1)) then (some ((⟨#[]⟩ : ByteArray), 0, 10)) else (if 0 ≤ bt152.2.1 then (if bt152.2.1 ≤ (wrap64 (bt152.2.1 + bt152.1)) then (if (wrap64 (bt152.2.1 + bt152.1)) ≤ (a0.size : Int) then (some (a0.extract (bt152.2.1 : Int).toNat ((wrap64 (bt152.2.1 + bt152.1)) : Int).toNat, wrap64 (bt152.2.1 + bt152.1), 0)) else (none)) else (none)) else (none))))) else (some ((⟨#[]⟩ : ByteArray), 0, bt152.2.2)))) = some (r1, r2, r3) := h
  clear h
  replace H := Option.bind_eq_some_iff.mp H
  obtain ⟨⟨t152, t153, t154⟩, A30, H⟩ := H
  replace H : (if t154 = 0 then (if t152 < 0 then (some ((⟨#[]⟩ : ByteArray), 0, 10)) else (if t152 > 65536 then (some ((⟨#[]⟩ : ByteArray), 0, 10)) else (if t152 > (wrap64 ((a0.size : Int) - t153)) then (some ((⟨#[]⟩ : ByteArray), 0, 10)) else (if 0 ≤ t153 then (if t153 ≤ (wrap64 (t153 + t152)) then (if (wrap64 (t153 + t152)) ≤ (a0.size : Int) then (some (a0.extract (t153 : Int).toNat ((wrap64 (t153 + t152)) : Int).toNat, wrap64 (t153 + t152), 0)) else (none)) else (none)) else (none))))) else (some ((⟨#[]⟩ : ByteArray), 0, t154))) = some (r1, r2, r3) := H
  have A3 := Aside0.mk A30
  clear A30
  by_cases c4 : t154 = 0
  · rw [if_pos c4] at H
    have c4b0 : (t154 == 0) = true := beq_iff_eq.mpr c4
    have c4b1 : (t154 != 0) = false := bne_eq_false_iff_eq.mpr c4
    clear c4
    by_cases c5 : t152 < 0
    · rw [if_pos c5] at H
      have c5b0 : decide (t152 < 0) = true := decide_eq_true c5
      clear c5
      simp only [Option.some.injEq, Prod.mk.injEq] at H
      obtain ⟨rfl, rfl, rfl⟩ := H
      go_enter Tryd.func18, Tryd.ntmps18
      go_wp2_with (first | ((with_reducible refine gate_callee (f := 16) rfl ?_); refine goesL_ (some 13) rfl rfl Tryd.func16 (by kernel_rfl) rfl #[.string a0, .int .i64 a1] rfl (by (try simp only [List.map_toArray, List.map_cons, List.map_nil]); first | done | rfl | (simp only [List.length_drop, List.length_take]; rfl)) ?_; (with_reducible refine (workpieceref01_Int.calls k a0 a1 t152 t153 t154 _ A3.out).mono ?_); rintro e w6 ⟨rfl, hb⟩; refine ⟨_, rfl, ?_⟩; have n0_ := Aside0.mk (below_step (by repeat (first | (with_reducible first | exact HB.out | apply below_alloc | apply pw_below_drewN | apply below_drew1) | exact HB.out)) hb); clear HB; have HB := n0_; clear n0_; (try clear hb); (try clear hb2); (try clear hk); (try clear hi)))
      go_ret3
      exact ⟨by first | rfl | (simp [errW_none, errW_some] <;> rfl) | (simp [*, errW_none, errW_some] <;> rfl), by repeat (first | (with_reducible first | exact HB.out | apply below_alloc | apply pw_below_drewN | apply below_drew1) | exact HB.out)⟩
    · rw [if_neg c5] at H
      have c5b0 : decide (t152 < 0) = false := decide_eq_false c5
      clear c5
      by_cases c7 : t152 > 65536
      · rw [if_pos c7] at H
        have c7b0 : decide (65536 < t152) = true := decide_eq_true c7
        clear c7
        simp only [Option.some.injEq, Prod.mk.injEq] at H
        obtain ⟨rfl, rfl, rfl⟩ := H
        go_enter Tryd.func18, Tryd.ntmps18
        go_wp2_with (first | ((with_reducible refine gate_callee (f := 16) rfl ?_); refine goesL_ (some 13) rfl rfl Tryd.func16 (by kernel_rfl) rfl #[.string a0, .int .i64 a1] rfl (by (try simp only [List.map_toArray, List.map_cons, List.map_nil]); first | done | rfl | (simp only [List.length_drop, List.length_take]; rfl)) ?_; (with_reducible refine (workpieceref01_Int.calls k a0 a1 t152 t153 t154 _ A3.out).mono ?_); rintro e w8 ⟨rfl, hb⟩; refine ⟨_, rfl, ?_⟩; have n0_ := Aside0.mk (below_step (by repeat (first | (with_reducible first | exact HB.out | apply below_alloc | apply pw_below_drewN | apply below_drew1) | exact HB.out)) hb); clear HB; have HB := n0_; clear n0_; (try clear hb); (try clear hb2); (try clear hk); (try clear hi)))
        go_ret3
        exact ⟨by first | rfl | (simp [errW_none, errW_some] <;> rfl) | (simp [*, errW_none, errW_some] <;> rfl), by repeat (first | (with_reducible first | exact HB.out | apply below_alloc | apply pw_below_drewN | apply below_drew1) | exact HB.out)⟩
      · rw [if_neg c7] at H
        have c7b0 : decide (65536 < t152) = false := decide_eq_false c7
        clear c7
        by_cases c9 : t152 > (wrap64 ((a0.size : Int) - t153))
        · rw [if_pos c9] at H
          have c9b0 : decide ((wrap64 ((a0.size : Int) - t153)) < t152) = true := decide_eq_true c9
          clear c9
          simp only [Option.some.injEq, Prod.mk.injEq] at H
          obtain ⟨rfl, rfl, rfl⟩ := H
          go_enter Tryd.func18, Tryd.ntmps18
          go_wp2_with (first | ((with_reducible refine gate_callee (f := 16) rfl ?_); refine goesL_ (some 13) rfl rfl Tryd.func16 (by kernel_rfl) rfl #[.string a0, .int .i64 a1] rfl (by (try simp only [List.map_toArray, List.map_cons, List.map_nil]); first | done | rfl | (simp only [List.length_drop, List.length_take]; rfl)) ?_; (with_reducible refine (workpieceref01_Int.calls k a0 a1 t152 t153 t154 _ A3.out).mono ?_); rintro e w10 ⟨rfl, hb⟩; refine ⟨_, rfl, ?_⟩; have n0_ := Aside0.mk (below_step (by repeat (first | (with_reducible first | exact HB.out | apply below_alloc | apply pw_below_drewN | apply below_drew1) | exact HB.out)) hb); clear HB; have HB := n0_; clear n0_; (try clear hb); (try clear hb2); (try clear hk); (try clear hi)))
          go_ret3
          exact ⟨by first | rfl | (simp [errW_none, errW_some] <;> rfl) | (simp [*, errW_none, errW_some] <;> rfl), by repeat (first | (with_reducible first | exact HB.out | apply below_alloc | apply pw_below_drewN | apply below_drew1) | exact HB.out)⟩
        · rw [if_neg c9] at H
          have c9b0 : decide ((wrap64 ((a0.size : Int) - t153)) < t152) = false := decide_eq_false c9
          clear c9
          by_cases c11 : 0 ≤ t153
          · rw [if_pos c11] at H
            have c11b0 := eq_true c11
            have c11b1 : decide (0 ≤ t153) = true := decide_eq_true c11
            clear c11
            by_cases c12 : t153 ≤ (wrap64 (t153 + t152))
            · rw [if_pos c12] at H
              have c12b0 := eq_true c12
              have c12b1 : decide (t153 ≤ (wrap64 (t153 + t152))) = true := decide_eq_true c12
              by_cases c13 : (wrap64 (t153 + t152)) ≤ (a0.size : Int)
              · rw [if_pos c13] at H
                have c13b0 := eq_true c13
                have c13b1 : decide ((wrap64 (t153 + t152)) ≤ (a0.size : Int)) = true := decide_eq_true c13
                simp only [Option.some.injEq, Prod.mk.injEq] at H
                obtain ⟨rfl, rfl, rfl⟩ := H
                go_enter Tryd.func18, Tryd.ntmps18
                go_wp2_with (first | ((with_reducible refine gate_callee (f := 16) rfl ?_); refine goesL_ (some 13) rfl rfl Tryd.func16 (by kernel_rfl) rfl #[.string a0, .int .i64 a1] rfl (by (try simp only [List.map_toArray, List.map_cons, List.map_nil]); first | done | rfl | (simp only [List.length_drop, List.length_take]; rfl)) ?_; (with_reducible refine (workpieceref01_Int.calls k a0 a1 t152 t153 t154 _ A3.out).mono ?_); rintro e w14 ⟨rfl, hb⟩; refine ⟨_, rfl, ?_⟩; have n0_ := Aside0.mk (below_step (by repeat (first | (with_reducible first | exact HB.out | apply below_alloc | apply pw_below_drewN | apply below_drew1) | exact HB.out)) hb); clear HB; have HB := n0_; clear n0_; (try clear hb); (try clear hb2); (try clear hk); (try clear hi)))
                go_ret3
                exact ⟨by first | rfl | (simp [errW_none, errW_some] <;> rfl) | (simp [*, errW_none, errW_some] <;> rfl), by repeat (first | (with_reducible first | exact HB.out | apply below_alloc | apply pw_below_drewN | apply below_drew1) | exact HB.out)⟩
              · rw [if_neg c13] at H
                exact absurd H (by simp)
            · rw [if_neg c12] at H
              exact absurd H (by simp)
          · rw [if_neg c11] at H
            exact absurd H (by simp)
  · rw [if_neg c4] at H
    have c4b0 : (t154 == 0) = false := beq_eq_false_iff_ne.mpr c4
    have c4b1 : (t154 != 0) = true := bne_iff_ne.mpr c4
    simp only [Option.some.injEq, Prod.mk.injEq] at H
    obtain ⟨rfl, rfl, rfl⟩ := H
    go_enter Tryd.func18, Tryd.ntmps18
    go_wp2_with (first | ((with_reducible refine gate_callee (f := 16) rfl ?_); refine goesL_ (some 13) rfl rfl Tryd.func16 (by kernel_rfl) rfl #[.string a0, .int .i64 a1] rfl (by (try simp only [List.map_toArray, List.map_cons, List.map_nil]); first | done | rfl | (simp only [List.length_drop, List.length_take]; rfl)) ?_; (with_reducible refine (workpieceref01_Int.calls k a0 a1 t152 t153 t154 _ A3.out).mono ?_); rintro e w15 ⟨rfl, hb⟩; refine ⟨_, rfl, ?_⟩; have n0_ := Aside0.mk (below_step (by repeat (first | (with_reducible first | exact HB.out | apply below_alloc | apply pw_below_drewN | apply below_drew1) | exact HB.out)) hb); clear HB; have HB := n0_; clear n0_; (try clear hb); (try clear hb2); (try clear hk); (try clear hi)))
    go_ret3
    exact ⟨by first | rfl | (simp [errW_none, errW_some] <;> rfl) | (simp [*, errW_none, errW_some] <;> rfl), by repeat (first | (with_reducible first | exact HB.out | apply below_alloc | apply pw_below_drewN | apply below_drew1) | exact HB.out)⟩

/-! ### workpieceref01_PutString: function 20 -/
def workpieceref01_PutString.f (k : Nat) (a0 : ByteArray) : Option (ByteArray × Int) := if (a0.size : Int) > 65536 then (some ((⟨#[]⟩ : ByteArray), 10)) else ((workpieceref01_PutInt.f k (a0.size : Int)).bind fun bt155 => (if bt155.1.size + a0.size ≤ 9223372036854775807 then (some (bt155.1 ++ a0, 0)) else (none)))
theorem workpieceref01_PutString.mono : ∀ a0 k, LeO (workpieceref01_PutString.f k a0) (workpieceref01_PutString.f (k + 1) a0) := by
  intro a0 k
  unfold workpieceref01_PutString.f
  repeat' first
      | (with_reducible exact workpieceref01_PutInt.mono _ _)
      | (with_reducible exact LeO.refl _)
      | (with_reducible exact LeO.none _)
      | (with_reducible refine LeO.ite ?_ ?_)
      | (with_reducible refine LeO.bind ?_ (fun _ => ?_))
      | exact workpieceref01_PutInt.mono _ _
      | exact LeO.none _
      | refine LeO.ite ?_ ?_
      | refine LeO.bind ?_ (fun _ => ?_)
set_option maxHeartbeats 8000000 in
set_option maxRecDepth 100000 in
theorem workpieceref01_PutString.calls (k : Nat) (a0 : ByteArray) (r1 : ByteArray) (r2 : Int) (w : World) (h : workpieceref01_PutString.f k a0 = some (r1, r2)) :
    Calls Tryd.prog 20 #[.string a0] w fun e w' => e = .returned (.tuple #[.string r1, .int .i64 r2]) ∧ Below w.heap.size w w' := by
  have HB := Aside0.mk (Below.refl w.heap.size w)
  have H : (if (a0.size : Int) > 65536 then (some ((⟨#[]⟩ : ByteArray), 10)) else ((workpieceref01_PutInt.f k (a0.size : Int)).bind fun bt155 => (if bt155.1.size + a0.size ≤ 9223372036854775807 then (some (bt155.1 ++ a0, 0)) else (none)))) = some (r1, r2) := h
  clear h
  by_cases c2 : (a0.size : Int) > 65536
  · rw [if_pos c2] at H
    have c2b0 : decide (65536 < (a0.size : Int)) = true := decide_eq_true c2
    have c2b1 : decide (65536 < a0.size) = true := decide_eq_true (by omega)
    clear c2
    simp only [Option.some.injEq, Prod.mk.injEq] at H
    obtain ⟨rfl, rfl⟩ := H
    go_enter Tryd.func20, Tryd.ntmps20
    go_wp2
    go_ret2
    exact ⟨by first | rfl | (simp [errW_none, errW_some] <;> rfl) | (simp [*, errW_none, errW_some] <;> rfl), by repeat (first | (with_reducible first | exact HB.out | apply below_alloc | apply pw_below_drewN | apply below_drew1) | exact HB.out)⟩
  · rw [if_neg c2] at H
    have c2b0 : decide (65536 < (a0.size : Int)) = false := decide_eq_false c2
    have c2b1 : decide (65536 < a0.size) = false := decide_eq_false (by omega)
    clear c2
    replace H := Option.bind_eq_some_iff.mp H
    obtain ⟨⟨t155, t156⟩, A30, H⟩ := H
    replace H : (if t155.size + a0.size ≤ 9223372036854775807 then (some (t155 ++ a0, 0)) else (none)) = some (r1, r2) := H
    have A3 := Aside0.mk A30
    clear A30
    by_cases c4 : t155.size + a0.size ≤ 9223372036854775807
    · rw [if_pos c4] at H
      have c4b0 := eq_true c4
      have c4b1 : decide (t155.size + a0.size ≤ 9223372036854775807) = true := decide_eq_true c4
      try have c4b2 : (9223372036854775807 < t155.size + a0.size) = False := eq_false (Nat.not_lt.2 c4)
      simp only [Option.some.injEq, Prod.mk.injEq] at H
      obtain ⟨rfl, rfl⟩ := H
      go_enter Tryd.func20, Tryd.ntmps20
      go_wp2_with (first | ((with_reducible refine gate_callee (f := 13) rfl ?_); refine goesL_ (some 12) rfl rfl Tryd.func13 (by kernel_rfl) rfl #[.int .i64 (a0.size : Int)] rfl (by (try simp only [List.map_toArray, List.map_cons, List.map_nil]); first | done | rfl | (simp only [List.length_drop, List.length_take]; rfl)) ?_; (with_reducible refine (workpieceref01_PutInt.calls k (a0.size : Int) t155 t156 _ A3.out).mono ?_); rintro e w5 ⟨rfl, hb⟩; refine ⟨_, rfl, ?_⟩; have n0_ := Aside0.mk (below_step (by repeat (first | (with_reducible first | exact HB.out | apply below_alloc | apply pw_below_drewN | apply below_drew1) | exact HB.out)) hb); clear HB; have HB := n0_; clear n0_; (try clear hb); (try clear hb2); (try clear hk); (try clear hi)))
      go_ret2
      exact ⟨by first | rfl | (simp [errW_none, errW_some] <;> rfl) | (simp [*, errW_none, errW_some] <;> rfl), by repeat (first | (with_reducible first | exact HB.out | apply below_alloc | apply pw_below_drewN | apply below_drew1) | exact HB.out)⟩
    · rw [if_neg c4] at H
      exact absurd H (by simp)


end Go.Proofs.YtodaajokphoioaaDoor.L

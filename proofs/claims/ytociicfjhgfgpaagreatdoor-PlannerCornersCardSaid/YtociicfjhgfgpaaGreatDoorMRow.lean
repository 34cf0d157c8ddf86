/- The law PlannerCorners of workpiecelaw29, whole: for every input the call returns true and each argument reads behind it as it read before; the listed variables as the program's text lays them (tied). Conditions: those of the given row. -/
import Derived.Test.YtociicfjhgfgpaaGreatDoorRows
import Derived.Test.YtociicfjhgfgpaaGreatDoorCards
import Derived.Test.YtociicfjhgfgpaaGreatDoorTie
import Derived.Test.YtociicfjhgfgpaaGreatDoorM10
import Derived.Test.YtociicfjhgfgpaaGreatDoorM49
import Derived.WalkKit
import Derived.ProofKit
import Derived.OpenShut
import Derived.ShutString
import Derived.ChangeOld
import Derived.Below
import Derived.SizedLaws
import Derived.SevenTiedAt
set_option linter.unusedVariables false
set_option linter.unusedSimpArgs false
namespace Go.Proofs.YtociicfjhgfgpaaGreatDoor.rowPlannerCorners
open Go.ChangeShapes Go.WideShapes Go.ChangeAt Go.RowKit
open Go.Proofs.YtociicfjhgfgpaaGreatDoor
set_option linter.unusedVariables false
set_option maxRecDepth 100000 in
theorem lifted (os : Os) (started : os.Started) (H : Type) (enc : TypeId × Value → H) :
    ReturnsInHanded {} Tryz.checked os 4 .any (fun w args => (Rows.plannerCornersSpec.pre enc Tryz.prog Tryz.f4 [] false w args ∧ laidMetH Tryz.prog laidL w) ∧ sizedMet enc Tryz.prog Tryz.f4 (OpenSpec.ofChange Rows.plannerCornersSpec) false w args)
      (Rows.plannerCornersSpec.post enc Tryz.prog Tryz.f4 false true false false) := by
  refine returnsInHanded_of_change_and (C := Tryz.checked) (X := fun w _ => laidMetH Tryz.prog laidL w) (fun _ _ _ hh h => h.of_heap hh) ownK started (by kernel_rfl) Tryz.func4
    (ChangeSpec.witness_shaped (enc := enc) (C := Tryz.checked) (os := os) (X := fun w _ => laidMetH Tryz.prog laidL w) false (World.laidAll Tryz.prog os laidL) #[.agg #[.int .i64 0, .int .i64 0, .int .i64 0, .int .i64 0, .int .i64 0], .agg #[.int .i64 0, .int .i64 0, .int .i64 0]] 8 (World.laidAll_os _ _ _) (World.shaped_of_ZipB (by kernel_rfl) (by kernel_rfl)) (by kernel_rfl) (by kernel_rfl) (by kernel_rfl) (door_met os _)) ?_
  intro W base args ds gs before hval0 hW hcnd hsz0 hL _
  have hval : ∀ (j : Nat) t v, Tryz.f4.params[j]? = some t → args[j]? = some v → Value.okWide Tryz.prog W .any base t v := hval0
  have hW' := hW
  obtain ⟨p, q, hA0, hV, rfl, hfz, hnd⟩ := hW
  have hA : DataW.TrodAll enc Tryz.prog W 0 (fun _ => true) true Tryz.f4.params.toList args.toList ds p := hA0
  rw [Tryz.params4] at hA hval
  obtain ⟨v0, vs0, d0, ds0, p0, q0, hargs, rfl, rfl, h0, r0⟩ := trodAll_cons hA
  obtain ⟨v1, vs1, d1, ds1, p1, q1, rfl, rfl, rfl, h1, r1⟩ := trodAll_cons r0
  obtain ⟨rfl, rfl, rfl⟩ := trodAll_nil r1
  obtain rfl : args = #[v0, v1] := by cases args; simp_all
  obtain ⟨rfl, rfl⟩ := trodVars_none hV
  obtain ⟨a, b, c, x, y, rfl, rfl, rfl, wa, wb, wc, wx, wy⟩ := open_box (hval 0 23 v0 rfl rfl) h0
  obtain ⟨s, t, u, rfl, rfl, rfl, ws, wt, wu⟩ := open_ints3 (hval 1 47 v1 rfl rfl) h1
  clear hA0 hval0 hsz0 hval hcnd
  obtain ⟨pa, hP⟩ := plan_of_laid hL
  refine (lw_main a b c x y s t u pa W (pow_of_laid hL) hP (bounds_i64 wa) (bounds_i64 wb) (bounds_i64 wc) (bounds_i64 wx) (bounds_i64 wy) (bounds_i64 ws) (bounds_i64 wt) (bounds_i64 wu)).mono fun e W' ⟨he, bel⟩ => ?_
  subst he
  exact ⟨_, rfl, _, _, _, [], _, [], hW', trodAll_mk1 (shut_bool Tryz.underlying4 _), (trodAll_cons_mk (shut_box wa wb wc wx wy) (trodAll_cons_mk (shut_ints3 ws wt wu) trodAll_mk0)), rfl, bel.frame _, fun h => by cases h⟩
theorem row : Rows.PlannerCornersSaid :=
  OpenClaim.holds_of_wide 4 Tryz.f4 rfl rfl rfl rfl rfl rfl rfl ⟨rfl, rfl, rfl, rfl, rfl⟩ rfl rfl rfl rfl rfl (by kernel_rfl) Tryz.func4 (by kernel_rfl)
    (of_decide_eq_true (by kernel_rfl)) (by unfold Func.isWrapper; rw [if_neg (of_decide_eq_false (by kernel_rfl))]; exact ⟨rfl, rfl⟩)
    (fun os started H enc _ => lifted os started H enc)
set_option maxRecDepth 100000 in
theorem card : Rows.PlannerCornersCardSaid :=
  Claim7.holds_tied_plain_at .later [] [.data, .data, .data, .data, .sentinel, .sentinel, .sentinel, .pinned] true (true, Rows.plannerCornersCard.stood.harness.2) true
    row (fun _ h => by cases h) (by kernel_rfl) (fun _ h => by cases h) plannerCorners_row_tie rfl ⟨rfl, rfl⟩ (by kernel_rfl) rfl
    (fun f fn hf hfn => by
      obtain rfl : f = 4 := Option.some.inj ((show Tryz.prog.funcNamed "workpiece/workpiecelaw29.PlannerCorners" = some 4 by kernel_rfl).symm.trans hf) |>.symm
      obtain rfl : fn = Tryz.f4 := (Option.some.inj (Tryz.func4.symm.trans hfn)).symm
      exact ⟨by kernel_rfl, fun j t ht => by
        rw [Tryz.params4] at ht
        have h3 : t = 23 ∨ t = 47 := by
          rcases j with _ | j
          · simp at ht; subst ht; simp
          rcases j with _ | j
          · simp at ht; subst ht; simp
          · simp at ht
        rcases h3 with rfl | rfl
        · exact (show Tryz.prog.wantsStandIn 23 = false by kernel_rfl)
        · exact (show Tryz.prog.wantsStandIn 47 = false by kernel_rfl)⟩)
    (by kernel_rfl)
end Go.Proofs.YtociicfjhgfgpaaGreatDoor.rowPlannerCorners
namespace Go.Proofs.YtociicfjhgfgpaaGreatDoor
/-- The card, under a short name, for the claim. -/
theorem plannerCorners_card : Rows.PlannerCornersCardSaid := rowPlannerCorners.card
#print axioms plannerCorners_card
end Go.Proofs.YtociicfjhgfgpaaGreatDoor

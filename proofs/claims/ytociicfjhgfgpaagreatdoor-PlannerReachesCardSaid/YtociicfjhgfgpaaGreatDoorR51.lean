/- Towards the row: the walk's end of the law PlannerReaches of workpiecelaw29, whole: for every input the call returns true and each argument reads behind it as it read before; the listed variables as t. -/
import Derived.Test.YtociicfjhgfgpaaGreatDoorRows
import Derived.Test.YtociicfjhgfgpaaGreatDoorCards
import Derived.Test.YtociicfjhgfgpaaGreatDoorTie
import Derived.Test.YtociicfjhgfgpaaGreatDoorR09
import Derived.Test.YtociicfjhgfgpaaGreatDoorR50
import Derived.WalkKit
import Derived.ProofKit
import Derived.OpenShut
import Derived.ShutString
import Derived.ChangeOld
import Derived.Below
import Derived.SizedLaws
import Derived.SevenTiedAt
set_option maxRecDepth 100000
set_option linter.unusedVariables false
set_option linter.unusedSimpArgs false
namespace Go.Proofs.YtociicfjhgfgpaaGreatDoor.rowPlannerReaches
open Go.ChangeShapes Go.WideShapes Go.ChangeAt Go.RowKit
open Go.Proofs.YtociicfjhgfgpaaGreatDoor
theorem lifted (os : Os) (started : os.Started) (H : Type) (enc : TypeId × Value → H) :
    ReturnsInHanded {} Tryz.checked os 5 .any (fun w args => (Rows.plannerReachesSpec.pre enc Tryz.prog Tryz.f5 [] false w args ∧ laidMetH Tryz.prog laidL w) ∧ sizedMet enc Tryz.prog Tryz.f5 (OpenSpec.ofChange Rows.plannerReachesSpec) false w args)
      (Rows.plannerReachesSpec.post enc Tryz.prog Tryz.f5 false true false false) := by
  refine returnsInHanded_of_change_and (C := Tryz.checked) (X := fun w _ => laidMetH Tryz.prog laidL w) (fun _ _ _ hh h => h.of_heap hh) ownK started (by kernel_rfl) Tryz.func5
    (ChangeSpec.witness_shaped (enc := enc) (C := Tryz.checked) (os := os) (X := fun w _ => laidMetH Tryz.prog laidL w) false (World.laidAll Tryz.prog os laidL) #[.agg #[.int .i64 0, .int .i64 0, .int .i64 0, .int .i64 0, .int .i64 0], .agg #[.int .i64 0, .int .i64 0, .int .i64 0]] 8 (World.laidAll_os _ _ _) (World.shaped_of_ZipB (by kernel_rfl) (by kernel_rfl)) (by kernel_rfl) (by kernel_rfl) (by kernel_rfl) (door_met os _)) ?_
  intro W base args ds gs before hval0 hW hcnd hsz0 hL _
  have hval : ∀ (j : Nat) t v, Tryz.f5.params[j]? = some t → args[j]? = some v → Value.okWide Tryz.prog W .any base t v := hval0
  have hW' := hW
  obtain ⟨p, q, hA0, hV, rfl, hfz, hnd⟩ := hW
  have hA : DataW.TrodAll enc Tryz.prog W 0 (fun _ => true) true Tryz.f5.params.toList args.toList ds p := hA0
  rw [Tryz.params5] at hA hval
  obtain ⟨v0, vs0, d0, ds0, p0, q0, hargs, rfl, rfl, h0, r0⟩ := trodAll_cons hA
  obtain ⟨v1, vs1, d1, ds1, p1, q1, rfl, rfl, rfl, h1, r1⟩ := trodAll_cons r0
  obtain ⟨rfl, rfl, rfl⟩ := trodAll_nil r1
  obtain rfl : args = #[v0, v1] := by cases args; simp_all
  obtain ⟨rfl, rfl⟩ := trodVars_none hV
  obtain ⟨a, b, c, x, y, rfl, rfl, rfl, wa, wb, wc, wx, wy⟩ := open_box (hval 0 23 v0 rfl rfl) h0
  obtain ⟨s, t, u, rfl, rfl, rfl, ws, wt, wu⟩ := open_ints3 (hval 1 47 v1 rfl rfl) h1
  clear hA0 hval0 hsz0 hval hcnd
  obtain ⟨pa, hP⟩ := plan_of_laid hL
  refine (lr_main a b c x y s t u pa W (pow_of_laid hL) hP (bounds_i64 wa) (bounds_i64 wb) (bounds_i64 wc) (bounds_i64 wx) (bounds_i64 wy) (bounds_i64 ws) (bounds_i64 wt) (bounds_i64 wu)).mono fun e W' ⟨he, bel⟩ => ?_
  subst he
  exact ⟨_, rfl, _, _, _, [], _, [], hW', trodAll_mk1 (shut_bool Tryz.underlying4 _), (trodAll_cons_mk (shut_box wa wb wc wx wy) (trodAll_cons_mk (shut_ints3 ws wt wu) trodAll_mk0)), rfl, bel.frame _, fun h => by cases h⟩
end Go.Proofs.YtociicfjhgfgpaaGreatDoor.rowPlannerReaches

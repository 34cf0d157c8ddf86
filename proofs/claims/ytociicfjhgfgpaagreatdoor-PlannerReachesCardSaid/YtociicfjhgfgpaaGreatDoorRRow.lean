/- The law PlannerReaches of workpiecelaw29, whole: for every input the call returns true and each argument reads behind it as it read before; the listed variables as the program's text lays them (tied). Conditions: those of the given row. -/
import Derived.Test.YtociicfjhgfgpaaGreatDoorRows
import Derived.Test.YtociicfjhgfgpaaGreatDoorCards
import Derived.Test.YtociicfjhgfgpaaGreatDoorTie
import Derived.Test.YtociicfjhgfgpaaGreatDoorR09
import Derived.Test.YtociicfjhgfgpaaGreatDoorR51
import Derived.WalkKit
import Derived.ProofKit
import Derived.OpenShut
import Derived.ShutString
import Derived.ChangeOld
import Derived.Below
import Derived.SizedLaws
import Derived.SevenTiedAt
set_option maxRecDepth 100000
set_option linter.unusedVariables false
set_option linter.unusedSimpArgs false
namespace Go.Proofs.YtociicfjhgfgpaaGreatDoor.rowPlannerReaches
open Go.ChangeShapes Go.WideShapes Go.ChangeAt Go.RowKit
open Go.Proofs.YtociicfjhgfgpaaGreatDoor
set_option linter.unusedVariables false
set_option maxHeartbeats 16000000
theorem row : Rows.PlannerReachesSaid :=
  OpenClaim.holds_of_wide 5 Tryz.f5 rfl rfl rfl rfl rfl rfl rfl ⟨rfl, rfl, rfl, rfl, rfl⟩ rfl rfl rfl rfl rfl (by as_aux_lemma => kernel_rfl) Tryz.func5 (by as_aux_lemma => kernel_rfl)
    (of_decide_eq_true (by as_aux_lemma => kernel_rfl)) (by unfold Func.isWrapper; rw [if_neg (of_decide_eq_false (by kernel_rfl))]; exact ⟨rfl, rfl⟩)
    (fun os started H enc _ => lifted os started H enc)
theorem card : Rows.PlannerReachesCardSaid :=
  Claim7.holds_tied_plain_at .later [] [.data, .data, .data, .data, .sentinel, .sentinel, .sentinel, .sentinel, .pinned] true (true, Rows.plannerReachesCard.stood.harness.2) true
    row (fun _ h => by cases h) (by kernel_rfl) (fun _ h => by cases h) plannerReaches_row_tie rfl ⟨rfl, rfl⟩ (by kernel_rfl) rfl
    (fun f fn hf hfn => by
      obtain rfl : f = 5 := Option.some.inj ((show Tryz.prog.funcNamed "workpiece/workpiecelaw29.PlannerReaches" = some 5 by kernel_rfl).symm.trans hf) |>.symm
      obtain rfl : fn = Tryz.f5 := (Option.some.inj (Tryz.func5.symm.trans hfn)).symm
      exact ⟨by kernel_rfl, fun j t ht => by
        rw [Tryz.params5] at ht
        have h3 : t = 23 ∨ t = 47 := by
          rcases j with _ | j
          · simp at ht; subst ht; simp
          rcases j with _ | j
          · simp at ht; subst ht; simp
          · simp at ht
        rcases h3 with rfl | rfl
        · exact (show Tryz.prog.wantsStandIn 23 = false by kernel_rfl)
        · exact (show Tryz.prog.wantsStandIn 47 = false by kernel_rfl)⟩)
    (by kernel_rfl)
end Go.Proofs.YtociicfjhgfgpaaGreatDoor.rowPlannerReaches
namespace Go.Proofs.YtociicfjhgfgpaaGreatDoor
/-- The card, under a short name, for the claim. -/
theorem plannerReaches_card : Rows.PlannerReachesCardSaid := rowPlannerReaches.card
#print axioms plannerReaches_card
end Go.Proofs.YtociicfjhgfgpaaGreatDoor

/- From the row's condition on the listed table to the fact that the walks ask; the witness's heap. -/
import Derived.Test.YtodaajokphoioaaDoorRows
import Derived.Test.YtodaajokphoioaaDoorSum
import Derived.ProofKit
import Derived.LaidMore
import Derived.OpenShut
import Derived.Lib.LaidTab
import Derived.MakeChecks
import Derived.Stop.Joined
namespace Go.Proofs.YtodaajokphoioaaDoor
open Go.ChangeShapes Go.WideShapes Go.ChangeAt Go.RowKit

abbrev laidL : List (String × DataW Unit) := [("workpiece/wire.nibbles", Rows.laid_workpiece_wire_nibbles)]
theorem ownK : ownKnob Tryd.prog.godebug = none := by kernel_rfl
theorem gNib : Tryd.prog.globalNamed "workpiece/wire.nibbles" = some 0 := by kernel_rfl
theorem tNib : (Tryd.prog.globals[0]?).map (·.type) = some 52 := by kernel_rfl
theorem cells43 : Tryd.prog.cellsOf 43 = 1 := by kernel_rfl
theorem cells52 : Tryd.prog.cellsOf 52 = 16 := by kernel_rfl

theorem door_met (os : Os) (args : Array Value) : laidMetH Tryd.prog laidL ((World.doorLaid Tryd.prog 400 os).forCall (fun _ _ => 0) ⟨#[], args, []⟩).memory :=
  laidMetH_of_parts3 (fuel := 8) (laidMet_of_run' 8 (by kernel_rfl) (by kernel_rfl)) (by kernel_rfl) (by kernel_rfl)

theorem nib_of_laid {W : World} (h : laidMetH Tryd.prog laidL W) : Nib W := by
  rw [MakeChecks.laidMetH_plain _ _ _ (by kernel_rfl)] at h
  have hT := Lib.tabIs_of_head (k := .u32) (zs := tab.map fun n : Nat => (n : Int)) (rest := []) gNib tNib Tryd.underlying52 Tryd.underlying43 cells43 cells52 h
  intro i hi
  have e := hT.cell gNib i (by simp [tab]; omega)
  have e2 : (tab.map fun n : Nat => (n : Int)).getD i 0 = (tabN i : Int) := by
    have hall : ∀ i, i < 16 → (tab.map fun n : Nat => (n : Int)).getD i 0 = (tabN i : Int) := by decide
    exact hall i hi
  rw [e2] at e
  exact e

end Go.Proofs.YtodaajokphoioaaDoor

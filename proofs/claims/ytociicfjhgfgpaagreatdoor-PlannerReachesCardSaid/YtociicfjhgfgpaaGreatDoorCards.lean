/-
  DERIVED. GIVEN WITH THE SEED: THE CARDS: each row of YtociicfjhgfgpaaGreatDoorRows.lean that lists a variable, with what it lists TIED to the program's text (the seventh form; the later family's looks); each row that meets fmt, with fmt's text TOLD by the authors' own Lean function (tested against real Go, not proved from fmt's source: count such statements apart). THE CARD IS WHAT COUNTS. Prove the row's statement (the work); the ties are given (YtociicfjhgfgpaaGreatDoorTie.lean); close each card by the builder's one call (the guide's Derived/Test/ToyasCard.lean, 'card_holds'). Laid BY PROGRAM, IN A SANDBOX (cutbox-door.mjs). By AI agents, Wed Nov 11 2026. No macro, syntax, notation, axiom, sorry.
-/
import Derived.Test.YtociicfjhgfgpaaGreatDoorRows
import GoSem.ClaimSeven
namespace Go.Proofs.YtociicfjhgfgpaaGreatDoor
namespace Rows

/-- THE TIED CARD OF 'workpiecelaw29.PlannerPocketsMatchReference'. -/
def plannerPocketsMatchReferenceCard : Claim7 := { stood := { row := plannerPocketsMatchReferenceRow, standIns := [], harness := (true, "4523a78b506f8de8acd796b932ca057d047dad98e1f06ab114a584f3353b911e"), looks := true }, kinds := [], alts := [], laidByText := true, laidKinds := [.data, .data, .data, .data, .sentinel, .sentinel, .sentinel, .pinned], laidTests := true, laidLooks := .later }
def PlannerPocketsMatchReferenceCardSaid : Prop := Claim7.holds Tryz.pinned (.plain (OpenSpec.ofChange plannerPocketsMatchReferenceSpec)) plannerPocketsMatchReferenceCard

/-- THE TIED CARD OF 'workpiecelaw29.PlannerCorners'. -/
def plannerCornersCard : Claim7 := { stood := { row := plannerCornersRow, standIns := [], harness := (true, "4523a78b506f8de8acd796b932ca057d047dad98e1f06ab114a584f3353b911e"), looks := true }, kinds := [], alts := [], laidByText := true, laidKinds := [.data, .data, .data, .data, .sentinel, .sentinel, .sentinel, .pinned], laidTests := true, laidLooks := .later }
def PlannerCornersCardSaid : Prop := Claim7.holds Tryz.pinned (.plain (OpenSpec.ofChange plannerCornersSpec)) plannerCornersCard

/-- THE TIED CARD OF 'workpiecelaw29.PlannerReaches'. -/
def plannerReachesCard : Claim7 := { stood := { row := plannerReachesRow, standIns := [], harness := (true, "4523a78b506f8de8acd796b932ca057d047dad98e1f06ab114a584f3353b911e"), looks := true }, kinds := [], alts := [], laidByText := true, laidKinds := [.data, .data, .data, .data, .sentinel, .sentinel, .sentinel, .sentinel, .pinned], laidTests := true, laidLooks := .later }
def PlannerReachesCardSaid : Prop := Claim7.holds Tryz.pinned (.plain (OpenSpec.ofChange plannerReachesSpec)) plannerReachesCard

/-- THE SECOND FORM's CARD OF 'workpiecelaw29.PlannerPocketsMatchReference'. -/
def plannerPocketsMatchReferenceUptoCard : Claim7 := { stood := { row := plannerPocketsMatchReferenceUptoRow, standIns := [], harness := (true, "4523a78b506f8de8acd796b932ca057d047dad98e1f06ab114a584f3353b911e"), looks := true }, kinds := [], alts := [], laidByText := true, laidKinds := [.data, .data, .data, .data, .sentinel, .sentinel, .sentinel, .pinned], laidTests := true, laidLooks := .later }
def PlannerPocketsMatchReferenceUptoCardSaid : Prop := Claim7.holds Tryz.pinned (.plain (OpenSpec.upto plannerPocketsMatchReferenceSpec)) plannerPocketsMatchReferenceUptoCard

/-- THE SECOND FORM's CARD OF 'workpiecelaw29.PlannerCorners'. -/
def plannerCornersUptoCard : Claim7 := { stood := { row := plannerCornersUptoRow, standIns := [], harness := (true, "4523a78b506f8de8acd796b932ca057d047dad98e1f06ab114a584f3353b911e"), looks := true }, kinds := [], alts := [], laidByText := true, laidKinds := [.data, .data, .data, .data, .sentinel, .sentinel, .sentinel, .pinned], laidTests := true, laidLooks := .later }
def PlannerCornersUptoCardSaid : Prop := Claim7.holds Tryz.pinned (.plain (OpenSpec.upto plannerCornersSpec)) plannerCornersUptoCard

/-- THE SECOND FORM's CARD OF 'workpiecelaw29.PlannerReaches'. -/
def plannerReachesUptoCard : Claim7 := { stood := { row := plannerReachesUptoRow, standIns := [], harness := (true, "4523a78b506f8de8acd796b932ca057d047dad98e1f06ab114a584f3353b911e"), looks := true }, kinds := [], alts := [], laidByText := true, laidKinds := [.data, .data, .data, .data, .sentinel, .sentinel, .sentinel, .sentinel, .pinned], laidTests := true, laidLooks := .later }
def PlannerReachesUptoCardSaid : Prop := Claim7.holds Tryz.pinned (.plain (OpenSpec.upto plannerReachesSpec)) plannerReachesUptoCard
end Rows
end Go.Proofs.YtociicfjhgfgpaaGreatDoor

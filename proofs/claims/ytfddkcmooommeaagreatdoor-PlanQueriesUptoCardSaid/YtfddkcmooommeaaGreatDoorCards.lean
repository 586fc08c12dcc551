/-
  DERIVED. GIVEN WITH THE SEED: THE CARDS: each row of YtfddkcmooommeaaGreatDoorRows.lean that lists a variable, with what it lists TIED to the program's text (the seventh form; the later family's looks); each row that meets fmt, with fmt's text TOLD by the authors' own Lean function (tested against real Go, not proved from fmt's source: count such statements apart). THE CARD IS WHAT COUNTS. Prove the row's statement (the work); the ties are given (YtfddkcmooommeaaGreatDoorTie.lean); close each card by the builder's one call (the guide's Derived/Test/ToyasCard.lean, 'card_holds'). Laid BY PROGRAM, IN A SANDBOX (cutbox-door.mjs). By AI agents, Wed Nov 11 2026. No macro, syntax, notation, axiom, sorry.
-/
import Derived.Test.YtfddkcmooommeaaGreatDoorRows
import GoSem.ClaimSeven
namespace Go.Proofs.YtfddkcmooommeaaGreatDoor
namespace Rows

/-- THE TIED CARD OF 'rhizomelaw13.PlanStands'. -/
def planStandsCard : Claim7 := { stood := { row := planStandsRow, standIns := [], harness := (true, "3d7f8d10e65d69e0ec9a2d9e5118435543dd89a09068def3fd4fe04a6b5c7504"), looks := false }, kinds := [], alts := [], laidByText := true, laidKinds := [.data, .pinned], laidTests := true, laidLooks := .later }
def PlanStandsCardSaid : Prop := Claim7.holds Tryz.pinned (.plain (OpenSpec.ofChange planStandsSpec)) planStandsCard

/-- THE TIED CARD OF 'rhizomelaw13.PlanRules'. -/
def planRulesCard : Claim7 := { stood := { row := planRulesRow, standIns := [], harness := (true, "3d7f8d10e65d69e0ec9a2d9e5118435543dd89a09068def3fd4fe04a6b5c7504"), looks := false }, kinds := [], alts := [], laidByText := true, laidKinds := [.data, .pinned], laidTests := true, laidLooks := .later }
def PlanRulesCardSaid : Prop := Claim7.holds Tryz.pinned (.plain (OpenSpec.ofChange planRulesSpec)) planRulesCard

/-- THE TIED CARD OF 'rhizomelaw13.PlanLooks'. -/
def planLooksCard : Claim7 := { stood := { row := planLooksRow, standIns := [], harness := (true, "3d7f8d10e65d69e0ec9a2d9e5118435543dd89a09068def3fd4fe04a6b5c7504"), looks := false }, kinds := [], alts := [], laidByText := true, laidKinds := [.data, .pinned], laidTests := true, laidLooks := .later }
def PlanLooksCardSaid : Prop := Claim7.holds Tryz.pinned (.plain (OpenSpec.ofChange planLooksSpec)) planLooksCard

/-- THE TIED CARD OF 'rhizomelaw13.PlanFull'. -/
def planFullCard : Claim7 := { stood := { row := planFullRow, standIns := [], harness := (true, "3d7f8d10e65d69e0ec9a2d9e5118435543dd89a09068def3fd4fe04a6b5c7504"), looks := false }, kinds := [], alts := [], laidByText := true, laidKinds := [.data, .pinned], laidTests := true, laidLooks := .later }
def PlanFullCardSaid : Prop := Claim7.holds Tryz.pinned (.plain (OpenSpec.ofChange planFullSpec)) planFullCard

/-- THE TIED CARD OF 'rhizomelaw13.PlanQueries'. -/
def planQueriesCard : Claim7 := { stood := { row := planQueriesRow, standIns := [], harness := (true, "3d7f8d10e65d69e0ec9a2d9e5118435543dd89a09068def3fd4fe04a6b5c7504"), looks := false }, kinds := [], alts := [], laidByText := true, laidKinds := [.data, .pinned], laidTests := true, laidLooks := .later }
def PlanQueriesCardSaid : Prop := Claim7.holds Tryz.pinned (.plain (OpenSpec.ofChange planQueriesSpec)) planQueriesCard

/-- THE SECOND FORM's CARD OF 'rhizomelaw13.PlanStands'. -/
def planStandsUptoCard : Claim7 := { stood := { row := planStandsUptoRow, standIns := [], harness := (true, "3d7f8d10e65d69e0ec9a2d9e5118435543dd89a09068def3fd4fe04a6b5c7504"), looks := false }, kinds := [], alts := [], laidByText := true, laidKinds := [.data, .pinned], laidTests := true, laidLooks := .later }
def PlanStandsUptoCardSaid : Prop := Claim7.holds Tryz.pinned (.plain (OpenSpec.upto planStandsSpec)) planStandsUptoCard

/-- THE SECOND FORM's CARD OF 'rhizomelaw13.PlanRules'. -/
def planRulesUptoCard : Claim7 := { stood := { row := planRulesUptoRow, standIns := [], harness := (true, "3d7f8d10e65d69e0ec9a2d9e5118435543dd89a09068def3fd4fe04a6b5c7504"), looks := false }, kinds := [], alts := [], laidByText := true, laidKinds := [.data, .pinned], laidTests := true, laidLooks := .later }
def PlanRulesUptoCardSaid : Prop := Claim7.holds Tryz.pinned (.plain (OpenSpec.upto planRulesSpec)) planRulesUptoCard

/-- THE SECOND FORM's CARD OF 'rhizomelaw13.PlanLooks'. -/
def planLooksUptoCard : Claim7 := { stood := { row := planLooksUptoRow, standIns := [], harness := (true, "3d7f8d10e65d69e0ec9a2d9e5118435543dd89a09068def3fd4fe04a6b5c7504"), looks := false }, kinds := [], alts := [], laidByText := true, laidKinds := [.data, .pinned], laidTests := true, laidLooks := .later }
def PlanLooksUptoCardSaid : Prop := Claim7.holds Tryz.pinned (.plain (OpenSpec.upto planLooksSpec)) planLooksUptoCard

/-- THE SECOND FORM's CARD OF 'rhizomelaw13.PlanFull'. -/
def planFullUptoCard : Claim7 := { stood := { row := planFullUptoRow, standIns := [], harness := (true, "3d7f8d10e65d69e0ec9a2d9e5118435543dd89a09068def3fd4fe04a6b5c7504"), looks := false }, kinds := [], alts := [], laidByText := true, laidKinds := [.data, .pinned], laidTests := true, laidLooks := .later }
def PlanFullUptoCardSaid : Prop := Claim7.holds Tryz.pinned (.plain (OpenSpec.upto planFullSpec)) planFullUptoCard

/-- THE SECOND FORM's CARD OF 'rhizomelaw13.PlanQueries'. -/
def planQueriesUptoCard : Claim7 := { stood := { row := planQueriesUptoRow, standIns := [], harness := (true, "3d7f8d10e65d69e0ec9a2d9e5118435543dd89a09068def3fd4fe04a6b5c7504"), looks := false }, kinds := [], alts := [], laidByText := true, laidKinds := [.data, .pinned], laidTests := true, laidLooks := .later }
def PlanQueriesUptoCardSaid : Prop := Claim7.holds Tryz.pinned (.plain (OpenSpec.upto planQueriesSpec)) planQueriesUptoCard
end Rows
end Go.Proofs.YtfddkcmooommeaaGreatDoor

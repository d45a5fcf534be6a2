/-
  DERIVED. GIVEN WITH THE SEED: THE CARDS: each row of YtkicenkljjpcfaaGreatDoorRows.lean that lists a variable, with what it lists TIED to the program's text (the seventh form; the later family's looks); each row that meets fmt, with fmt's text TOLD by the authors' own Lean function (tested against real Go, not proved from fmt's source: count such statements apart). THE CARD IS WHAT COUNTS. Prove the row's statement (the work); the ties are given (YtkicenkljjpcfaaGreatDoorTie.lean); close each card by the builder's one call (the guide's Derived/Test/ToyasCard.lean, 'card_holds'). Laid BY PROGRAM, IN A SANDBOX (cutbox-door.mjs). By AI agents, Wed Nov 11 2026. No macro, syntax, notation, axiom, sorry.
-/
import Derived.Test.YtkicenkljjpcfaaGreatDoorRows
import GoSem.ClaimSeven
namespace Go.Proofs.YtkicenkljjpcfaaGreatDoor
namespace Rows

/-- THE TIED CARD OF 'garretlaw33.ModelJudges'. -/
def modelJudgesCard : Claim7 := { stood := { row := modelJudgesRow, standIns := [], harness := (true, "609716fc95b62ae26433d1039bb8d4f7340ad889e08803f79e3458f41cb9e9c0"), looks := false }, kinds := [], alts := [], laidByText := true, laidKinds := [.data, .pinned], laidTests := true, laidLooks := .later }
def ModelJudgesCardSaid : Prop := Claim7.holds Tryz.pinned (.plain (OpenSpec.ofChange modelJudgesSpec)) modelJudgesCard

/-- THE SECOND FORM's CARD OF 'garretlaw33.ModelJudges'. -/
def modelJudgesUptoCard : Claim7 := { stood := { row := modelJudgesUptoRow, standIns := [], harness := (true, "609716fc95b62ae26433d1039bb8d4f7340ad889e08803f79e3458f41cb9e9c0"), looks := false }, kinds := [], alts := [], laidByText := true, laidKinds := [.data, .pinned], laidTests := true, laidLooks := .later }
def ModelJudgesUptoCardSaid : Prop := Claim7.holds Tryz.pinned (.plain (OpenSpec.upto modelJudgesSpec)) modelJudgesUptoCard
end Rows
end Go.Proofs.YtkicenkljjpcfaaGreatDoor

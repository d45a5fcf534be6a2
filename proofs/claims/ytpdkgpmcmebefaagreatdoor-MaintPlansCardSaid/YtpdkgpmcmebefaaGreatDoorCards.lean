/-
  DERIVED. GIVEN WITH THE SEED: THE CARDS: each row of YtpdkgpmcmebefaaGreatDoorRows.lean that lists a variable, with what it lists TIED to the program's text (the seventh form; the later family's looks); each row that meets fmt, with fmt's text TOLD by the authors' own Lean function (tested against real Go, not proved from fmt's source: count such statements apart). THE CARD IS WHAT COUNTS. Prove the row's statement (the work); the ties are given (YtpdkgpmcmebefaaGreatDoorTie.lean); close each card by the builder's one call (the guide's Derived/Test/ToyasCard.lean, 'card_holds'). Laid BY PROGRAM, IN A SANDBOX (cutbox-door.mjs). By AI agents, Wed Nov 11 2026. No macro, syntax, notation, axiom, sorry.
-/
import Derived.Test.YtpdkgpmcmebefaaGreatDoorRows
import GoSem.ClaimSeven
namespace Go.Proofs.YtpdkgpmcmebefaaGreatDoor
namespace Rows

/-- THE TIED CARD OF 'garretlaw28.MaintPlans'. -/
def maintPlansCard : Claim7 := { stood := { row := maintPlansRow, standIns := [], harness := (true, "792eb84baf796814c1c4606eed06e0b938d78e91c5e1df6717f22f103b4dfee4"), looks := false }, kinds := [], alts := [], laidByText := true, laidKinds := [.data, .data, .pinned], laidTests := true, laidLooks := .later }
def MaintPlansCardSaid : Prop := Claim7.holds Tryz.pinned (.plain (OpenSpec.ofChange maintPlansSpec)) maintPlansCard

/-- THE SECOND FORM's CARD OF 'garretlaw28.MaintPlans'. -/
def maintPlansUptoCard : Claim7 := { stood := { row := maintPlansUptoRow, standIns := [], harness := (true, "792eb84baf796814c1c4606eed06e0b938d78e91c5e1df6717f22f103b4dfee4"), looks := false }, kinds := [], alts := [], laidByText := true, laidKinds := [.data, .data, .pinned], laidTests := true, laidLooks := .later }
def MaintPlansUptoCardSaid : Prop := Claim7.holds Tryz.pinned (.plain (OpenSpec.upto maintPlansSpec)) maintPlansUptoCard
end Rows
end Go.Proofs.YtpdkgpmcmebefaaGreatDoor

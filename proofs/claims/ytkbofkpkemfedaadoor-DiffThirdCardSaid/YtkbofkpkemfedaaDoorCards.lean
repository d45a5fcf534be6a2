/-
  DERIVED. GIVEN WITH THE SEED: THE CARDS: each row of YtkbofkpkemfedaaDoorRows.lean that lists a variable, with what it lists TIED to the program's text (the seventh form; the later family's looks); each row that meets fmt, with fmt's text TOLD by the authors' own Lean function (tested against real Go, not proved from fmt's source: count such statements apart). THE CARD IS WHAT COUNTS. Prove the row's statement (the work); the ties are given (YtkbofkpkemfedaaDoorTie.lean); close each card by the builder's one call (the guide's Derived/Test/ToyasCard.lean, 'card_holds'). Laid BY PROGRAM, IN A SANDBOX (cutbox-door.mjs). By AI agents, Wed Nov 11 2026. No macro, syntax, notation, axiom, sorry.
-/
import Derived.Test.YtkbofkpkemfedaaDoorRows
import GoSem.ClaimSeven
namespace Go.Proofs.YtkbofkpkemfedaaDoor
namespace Rows

/-- THE TIED CARD OF 'garretlaw27.DiffThird'. -/
def diffThirdCard : Claim7 := { stood := { row := diffThirdRow, standIns := [], harness := (true, "0f255b3a645efe13e3e73a1f3a5a58d619276273c9ad0125a11de032fc28a9be"), looks := false }, kinds := [], alts := [], laidByText := true, laidKinds := [.data, .data, .pinned], laidTests := true, laidLooks := .later }
def DiffThirdCardSaid : Prop := Claim7.holds Tryd.pinned (.plain (OpenSpec.ofChange diffThirdSpec)) diffThirdCard

/-- THE TIED CARD OF 'garretlaw27.DiffTexts'. -/
def diffTextsCard : Claim7 := { stood := { row := diffTextsRow, standIns := [], harness := (true, "0f255b3a645efe13e3e73a1f3a5a58d619276273c9ad0125a11de032fc28a9be"), looks := false }, kinds := [], alts := [], laidByText := true, laidKinds := [.data, .data, .pinned], laidTests := true, laidLooks := .later }
def DiffTextsCardSaid : Prop := Claim7.holds Tryd.pinned (.plain (OpenSpec.ofChange diffTextsSpec)) diffTextsCard

/-- THE SECOND FORM's CARD OF 'garretlaw27.DiffThird'. -/
def diffThirdUptoCard : Claim7 := { stood := { row := diffThirdUptoRow, standIns := [], harness := (true, "0f255b3a645efe13e3e73a1f3a5a58d619276273c9ad0125a11de032fc28a9be"), looks := false }, kinds := [], alts := [], laidByText := true, laidKinds := [.data, .data, .pinned], laidTests := true, laidLooks := .later }
def DiffThirdUptoCardSaid : Prop := Claim7.holds Tryd.pinned (.plain (OpenSpec.upto diffThirdSpec)) diffThirdUptoCard

/-- THE SECOND FORM's CARD OF 'garretlaw27.DiffTexts'. -/
def diffTextsUptoCard : Claim7 := { stood := { row := diffTextsUptoRow, standIns := [], harness := (true, "0f255b3a645efe13e3e73a1f3a5a58d619276273c9ad0125a11de032fc28a9be"), looks := false }, kinds := [], alts := [], laidByText := true, laidKinds := [.data, .data, .pinned], laidTests := true, laidLooks := .later }
def DiffTextsUptoCardSaid : Prop := Claim7.holds Tryd.pinned (.plain (OpenSpec.upto diffTextsSpec)) diffTextsUptoCard
end Rows
end Go.Proofs.YtkbofkpkemfedaaDoor

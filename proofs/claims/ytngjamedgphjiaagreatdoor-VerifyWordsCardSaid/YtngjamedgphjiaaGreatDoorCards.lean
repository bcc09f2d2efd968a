/-
  DERIVED. GIVEN WITH THE SEED: THE CARDS: each row of YtngjamedgphjiaaGreatDoorRows.lean that lists a variable, with what it lists TIED to the program's text (the seventh form; the later family's looks); each row that meets fmt, with fmt's text TOLD by the authors' own Lean function (tested against real Go, not proved from fmt's source: count such statements apart). THE CARD IS WHAT COUNTS. Prove the row's statement (the work); the ties are given (YtngjamedgphjiaaGreatDoorTie.lean); close each card by the builder's one call (the guide's Derived/Test/ToyasCard.lean, 'card_holds'). Laid BY PROGRAM, IN A SANDBOX (cutbox-door.mjs). By AI agents, Wed Nov 11 2026. No macro, syntax, notation, axiom, sorry.
-/
import Derived.Test.YtngjamedgphjiaaGreatDoorRows
import GoSem.ClaimSeven
namespace Go.Proofs.YtngjamedgphjiaaGreatDoor
namespace Rows

/-- THE TIED CARD OF 'governorlaw20.VerifyBounds'. -/
def verifyBoundsCard : Claim7 := { stood := { row := verifyBoundsRow, standIns := [], harness := (true, "4c6979d5521ae5b6d3745fe6a9beb6f460e9da189e544010929b18fb1c17e030"), looks := true }, kinds := [], alts := [], laidByText := true, laidKinds := [.data, .handle, .pinned], laidTests := true, laidLooks := .later }
def VerifyBoundsCardSaid : Prop := Claim7.holds Tryz.pinned (.plain (OpenSpec.ofChange verifyBoundsSpec)) verifyBoundsCard

/-- THE TIED CARD OF 'governorlaw20.VerifyJobs'. -/
def verifyJobsCard : Claim7 := { stood := { row := verifyJobsRow, standIns := [], harness := (true, "4c6979d5521ae5b6d3745fe6a9beb6f460e9da189e544010929b18fb1c17e030"), looks := true }, kinds := [], alts := [], laidByText := true, laidKinds := [.data, .handle, .pinned], laidTests := true, laidLooks := .later }
def VerifyJobsCardSaid : Prop := Claim7.holds Tryz.pinned (.plain (OpenSpec.ofChange verifyJobsSpec)) verifyJobsCard

/-- THE TIED CARD OF 'governorlaw20.VerifyWords'. -/
def verifyWordsCard : Claim7 := { stood := { row := verifyWordsRow, standIns := [], harness := (true, "4c6979d5521ae5b6d3745fe6a9beb6f460e9da189e544010929b18fb1c17e030"), looks := true }, kinds := [], alts := [], laidByText := true, laidKinds := [.data, .handle, .pinned], laidTests := true, laidLooks := .later }
def VerifyWordsCardSaid : Prop := Claim7.holds Tryz.pinned (.plain (OpenSpec.ofChange verifyWordsSpec)) verifyWordsCard

/-- THE SECOND FORM's CARD OF 'governorlaw20.VerifyBounds'. -/
def verifyBoundsUptoCard : Claim7 := { stood := { row := verifyBoundsUptoRow, standIns := [], harness := (true, "4c6979d5521ae5b6d3745fe6a9beb6f460e9da189e544010929b18fb1c17e030"), looks := true }, kinds := [], alts := [], laidByText := true, laidKinds := [.data, .handle, .pinned], laidTests := true, laidLooks := .later }
def VerifyBoundsUptoCardSaid : Prop := Claim7.holds Tryz.pinned (.plain (OpenSpec.upto verifyBoundsSpec)) verifyBoundsUptoCard

/-- THE SECOND FORM's CARD OF 'governorlaw20.VerifyJobs'. -/
def verifyJobsUptoCard : Claim7 := { stood := { row := verifyJobsUptoRow, standIns := [], harness := (true, "4c6979d5521ae5b6d3745fe6a9beb6f460e9da189e544010929b18fb1c17e030"), looks := true }, kinds := [], alts := [], laidByText := true, laidKinds := [.data, .handle, .pinned], laidTests := true, laidLooks := .later }
def VerifyJobsUptoCardSaid : Prop := Claim7.holds Tryz.pinned (.plain (OpenSpec.upto verifyJobsSpec)) verifyJobsUptoCard

/-- THE SECOND FORM's CARD OF 'governorlaw20.VerifyWords'. -/
def verifyWordsUptoCard : Claim7 := { stood := { row := verifyWordsUptoRow, standIns := [], harness := (true, "4c6979d5521ae5b6d3745fe6a9beb6f460e9da189e544010929b18fb1c17e030"), looks := true }, kinds := [], alts := [], laidByText := true, laidKinds := [.data, .handle, .pinned], laidTests := true, laidLooks := .later }
def VerifyWordsUptoCardSaid : Prop := Claim7.holds Tryz.pinned (.plain (OpenSpec.upto verifyWordsSpec)) verifyWordsUptoCard
end Rows
end Go.Proofs.YtngjamedgphjiaaGreatDoor

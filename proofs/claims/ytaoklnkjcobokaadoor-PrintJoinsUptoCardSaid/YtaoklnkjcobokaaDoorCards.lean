/-
  DERIVED. GIVEN WITH THE SEED: THE CARDS: each row of YtaoklnkjcobokaaDoorRows.lean that lists a variable, with what it lists TIED to the program's text (the seventh form; the later family's looks); each row that meets fmt, with fmt's text TOLD by the authors' own Lean function (tested against real Go, not proved from fmt's source: count such statements apart). THE CARD IS WHAT COUNTS. Prove the row's statement (the work); the ties are given (YtaoklnkjcobokaaDoorTie.lean); close each card by the builder's one call (the guide's Derived/Test/ToyasCard.lean, 'card_holds'). Laid BY PROGRAM, IN A SANDBOX (cutbox-door.mjs). By AI agents, Wed Nov 11 2026. No macro, syntax, notation, axiom, sorry.
-/
import Derived.Test.YtaoklnkjcobokaaDoorRows
import GoSem.ClaimSeven
namespace Go.Proofs.YtaoklnkjcobokaaDoor
namespace Rows

/-- THE TIED CARD OF 'governorlaw5.PrintTells'. -/
def printTellsCard : Claim7 := { stood := { row := printTellsRow, standIns := [], harness := (true, "9b2d2912307117e7e58954e2298f5f7ab372616fc9b4fedb36a41e4267675189"), looks := false }, kinds := [], alts := [], laidByText := true, laidKinds := [.data, .data, .data], laidTests := true, laidLooks := .later }
def PrintTellsCardSaid : Prop := Claim7.holds Tryd.pinned (.plain (OpenSpec.ofChange printTellsSpec)) printTellsCard

/-- THE TIED CARD OF 'governorlaw5.PrintJoins'. -/
def printJoinsCard : Claim7 := { stood := { row := printJoinsRow, standIns := [], harness := (true, "9b2d2912307117e7e58954e2298f5f7ab372616fc9b4fedb36a41e4267675189"), looks := false }, kinds := [], alts := [], laidByText := true, laidKinds := [.data, .data, .data], laidTests := true, laidLooks := .later }
def PrintJoinsCardSaid : Prop := Claim7.holds Tryd.pinned (.plain (OpenSpec.ofChange printJoinsSpec)) printJoinsCard

/-- THE SECOND FORM's CARD OF 'governorlaw5.PrintTells'. -/
def printTellsUptoCard : Claim7 := { stood := { row := printTellsUptoRow, standIns := [], harness := (true, "9b2d2912307117e7e58954e2298f5f7ab372616fc9b4fedb36a41e4267675189"), looks := false }, kinds := [], alts := [], laidByText := true, laidKinds := [.data, .data, .data], laidTests := true, laidLooks := .later }
def PrintTellsUptoCardSaid : Prop := Claim7.holds Tryd.pinned (.plain (OpenSpec.upto printTellsSpec)) printTellsUptoCard

/-- THE SECOND FORM's CARD OF 'governorlaw5.PrintJoins'. -/
def printJoinsUptoCard : Claim7 := { stood := { row := printJoinsUptoRow, standIns := [], harness := (true, "9b2d2912307117e7e58954e2298f5f7ab372616fc9b4fedb36a41e4267675189"), looks := false }, kinds := [], alts := [], laidByText := true, laidKinds := [.data, .data, .data], laidTests := true, laidLooks := .later }
def PrintJoinsUptoCardSaid : Prop := Claim7.holds Tryd.pinned (.plain (OpenSpec.upto printJoinsSpec)) printJoinsUptoCard
end Rows
end Go.Proofs.YtaoklnkjcobokaaDoor

/-
  DERIVED. GIVEN WITH THE SEED: THE CARDS: each row of YtlhpaebiefmfiaaGreatDoorRows.lean that lists a variable, with what it lists TIED to the program's text (the seventh form; the later family's looks); each row that meets fmt, with fmt's text TOLD by the authors' own Lean function (tested against real Go, not proved from fmt's source: count such statements apart). THE CARD IS WHAT COUNTS. Prove the row's statement (the work); the ties are given (YtlhpaebiefmfiaaGreatDoorTie.lean); close each card by the builder's one call (the guide's Derived/Test/ToyasCard.lean, 'card_holds'). Laid BY PROGRAM, IN A SANDBOX (cutbox-door.mjs). By AI agents, Wed Nov 11 2026. No macro, syntax, notation, axiom, sorry.
-/
import Derived.Test.YtlhpaebiefmfiaaGreatDoorRows
import GoSem.ClaimSeven
namespace Go.Proofs.YtlhpaebiefmfiaaGreatDoor
namespace Rows

/-- THE TIED CARD OF 'governorlaw21.VMDispatch'. -/
def vMDispatchCard : Claim7 := { stood := { row := vMDispatchRow, standIns := [], harness := (true, "803974b92363b8cd1fe9863c73cf330dd2b6857bc94d45e80a47fce1754cb5ef"), looks := false }, kinds := [], alts := [], laidByText := true, laidKinds := [.data, .pinned], laidTests := true, laidLooks := .later }
def VMDispatchCardSaid : Prop := Claim7.holds Tryz.pinned (.plain (OpenSpec.ofChange vMDispatchSpec)) vMDispatchCard

/-- THE TIED CARD OF 'governorlaw21.VMNone'. -/
def vMNoneCard : Claim7 := { stood := { row := vMNoneRow, standIns := [], harness := (true, "803974b92363b8cd1fe9863c73cf330dd2b6857bc94d45e80a47fce1754cb5ef"), looks := false }, kinds := [], alts := [], laidByText := true, laidKinds := [.data, .pinned], laidTests := true, laidLooks := .later }
def VMNoneCardSaid : Prop := Claim7.holds Tryz.pinned (.plain (OpenSpec.ofChange vMNoneSpec)) vMNoneCard

/-- THE TIED CARD OF 'governorlaw22.ScanNone'. -/
def scanNoneCard : Claim7 := { stood := { row := scanNoneRow, standIns := [], harness := (true, "803974b92363b8cd1fe9863c73cf330dd2b6857bc94d45e80a47fce1754cb5ef"), looks := false }, kinds := [], alts := [], laidByText := true, laidKinds := [.data, .pinned], laidTests := true, laidLooks := .later }
def ScanNoneCardSaid : Prop := Claim7.holds Tryz.pinned (.plain (OpenSpec.ofChange scanNoneSpec)) scanNoneCard

/-- THE SECOND FORM's CARD OF 'governorlaw21.VMDispatch'. -/
def vMDispatchUptoCard : Claim7 := { stood := { row := vMDispatchUptoRow, standIns := [], harness := (true, "803974b92363b8cd1fe9863c73cf330dd2b6857bc94d45e80a47fce1754cb5ef"), looks := false }, kinds := [], alts := [], laidByText := true, laidKinds := [.data, .pinned], laidTests := true, laidLooks := .later }
def VMDispatchUptoCardSaid : Prop := Claim7.holds Tryz.pinned (.plain (OpenSpec.upto vMDispatchSpec)) vMDispatchUptoCard

/-- THE SECOND FORM's CARD OF 'governorlaw21.VMNone'. -/
def vMNoneUptoCard : Claim7 := { stood := { row := vMNoneUptoRow, standIns := [], harness := (true, "803974b92363b8cd1fe9863c73cf330dd2b6857bc94d45e80a47fce1754cb5ef"), looks := false }, kinds := [], alts := [], laidByText := true, laidKinds := [.data, .pinned], laidTests := true, laidLooks := .later }
def VMNoneUptoCardSaid : Prop := Claim7.holds Tryz.pinned (.plain (OpenSpec.upto vMNoneSpec)) vMNoneUptoCard

/-- THE SECOND FORM's CARD OF 'governorlaw22.ScanNone'. -/
def scanNoneUptoCard : Claim7 := { stood := { row := scanNoneUptoRow, standIns := [], harness := (true, "803974b92363b8cd1fe9863c73cf330dd2b6857bc94d45e80a47fce1754cb5ef"), looks := false }, kinds := [], alts := [], laidByText := true, laidKinds := [.data, .pinned], laidTests := true, laidLooks := .later }
def ScanNoneUptoCardSaid : Prop := Claim7.holds Tryz.pinned (.plain (OpenSpec.upto scanNoneSpec)) scanNoneUptoCard
end Rows
end Go.Proofs.YtlhpaebiefmfiaaGreatDoor

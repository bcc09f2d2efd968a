/-
  No cell of these rows narrows 'for every input' (looked for: loops, veiled, ifaces, maps, wideKeys, modest, calm, conditions, laid).
  DERIVED. THE GIVEN ROWS OF THIS SEAT. 4 by the template 'for every input the law returns true; each argument reads behind the call as it read before'; 0 by the template 'total and deterministic' (their statements: YtdbfbedholdjaaaGreatTotals.lean).
  GIVEN WITH THE SEED: the statements are not yours to turn. If you find one false, say at which input.
  Laid BY PROGRAM, IN A SANDBOX (cutbox-rows.mjs): the forced cells as the released guide's own fill.sh prints them over the translation ab1009f3488455d8… (all of the seat's roots in one cut). By AI agents, Wed Nov 11 2026. No macro, syntax, notation, axiom, sorry.
-/
import Derived.Test.YtdbfbedholdjaaaGreatChecked
import GoSem.Claim
import GoSem.ClaimJoined
import GoSem.ClaimMapViews
import Derived.JoinedTies
import Derived.KernelRfl
namespace Go.Proofs.YtdbfbedholdjaaaGreat
/- THE CELL 'sum', in the pinned program and in every row, IS THE sha256 OF THE DUMP (.gsa) THAT YtdbfbedholdjaaaGreatProg.lean LOADS. Nothing in Lean hashes anything: it is a label: what it is worth is what the hold of that sum in a sandbox is worth. -/
noncomputable def Tryz.pinned : Pinned := { name := "ytdbfbedholdjaaagreat", sum := "ab1009f3488455d85c12c36a7501f1fe75bbba3978ac7b1d02a7d2136a4ec70b", checked := Tryz.checked }
namespace Rows
def none {H : Type} : Left H := { results := [], args := [] }

/-- 'governorlaw16.LayoutSums': WHATEVER THE INPUT: true; the input reads as it did. -/
def layoutSumsSpec : ChangeSpec := { name := "layoutSums", fn := fun _ => fun
  | [d] => { results := [.lit (.bool true)], args := [d] }
  | _ => none }
def layoutSumsRow : OpenClaim := { program := "ytdbfbedholdjaaagreat", sum := "ab1009f3488455d85c12c36a7501f1fe75bbba3978ac7b1d02a7d2136a4ec70b", func := "governor/governorlaw16.LayoutSums", spec := "layoutSums", inPlace := ["internal/abi.NoEscape", "internal/bytealg.MakeNoZero"], unfollowed := true, recurses := true, apart := false }
def LayoutSumsSaid : Prop := layoutSumsRow.holds Tryz.pinned (OpenSpec.ofChange layoutSumsSpec)

/-- ITS FALSE NEIGHBOUR: 'it returns false'. Refute it at one input. -/
def layoutSumsWrong : ChangeSpec := { name := "layoutSums", fn := fun _ => fun
  | [d] => { results := [.lit (.bool false)], args := [d] }
  | _ => none }
def LayoutSumsWrongFalsely : Prop := layoutSumsRow.holds Tryz.pinned (OpenSpec.ofChange layoutSumsWrong)

/-- 'governorlaw16.LayoutPrefix': WHATEVER THE INPUT: true; the input reads as it did. -/
def layoutPrefixSpec : ChangeSpec := { name := "layoutPrefix", fn := fun _ => fun
  | [d] => { results := [.lit (.bool true)], args := [d] }
  | _ => none }
def layoutPrefixRow : OpenClaim := { program := "ytdbfbedholdjaaagreat", sum := "ab1009f3488455d85c12c36a7501f1fe75bbba3978ac7b1d02a7d2136a4ec70b", func := "governor/governorlaw16.LayoutPrefix", spec := "layoutPrefix", inPlace := ["internal/abi.NoEscape", "internal/bytealg.MakeNoZero"], unfollowed := true, recurses := true, apart := false }
def LayoutPrefixSaid : Prop := layoutPrefixRow.holds Tryz.pinned (OpenSpec.ofChange layoutPrefixSpec)

/-- ITS FALSE NEIGHBOUR: 'it returns false'. Refute it at one input. -/
def layoutPrefixWrong : ChangeSpec := { name := "layoutPrefix", fn := fun _ => fun
  | [d] => { results := [.lit (.bool false)], args := [d] }
  | _ => none }
def LayoutPrefixWrongFalsely : Prop := layoutPrefixRow.holds Tryz.pinned (OpenSpec.ofChange layoutPrefixWrong)

/-- 'governorlaw16.LayoutGrows': WHATEVER THE INPUT: true; the input reads as it did. -/
def layoutGrowsSpec : ChangeSpec := { name := "layoutGrows", fn := fun _ => fun
  | [d1, d2] => { results := [.lit (.bool true)], args := [d1, d2] }
  | _ => none }
def layoutGrowsRow : OpenClaim := { program := "ytdbfbedholdjaaagreat", sum := "ab1009f3488455d85c12c36a7501f1fe75bbba3978ac7b1d02a7d2136a4ec70b", func := "governor/governorlaw16.LayoutGrows", spec := "layoutGrows", inPlace := ["internal/abi.NoEscape", "internal/bytealg.MakeNoZero"], unfollowed := true, recurses := true, apart := false }
def LayoutGrowsSaid : Prop := layoutGrowsRow.holds Tryz.pinned (OpenSpec.ofChange layoutGrowsSpec)

/-- ITS FALSE NEIGHBOUR: 'it returns false'. Refute it at one input. -/
def layoutGrowsWrong : ChangeSpec := { name := "layoutGrows", fn := fun _ => fun
  | [d1, d2] => { results := [.lit (.bool false)], args := [d1, d2] }
  | _ => none }
def LayoutGrowsWrongFalsely : Prop := layoutGrowsRow.holds Tryz.pinned (OpenSpec.ofChange layoutGrowsWrong)

/-- 'governorlaw16.LayoutTells': WHATEVER THE INPUT: true; the input reads as it did. -/
def layoutTellsSpec : ChangeSpec := { name := "layoutTells", fn := fun _ => fun
  | [d] => { results := [.lit (.bool true)], args := [d] }
  | _ => none }
def layoutTellsRow : OpenClaim := { program := "ytdbfbedholdjaaagreat", sum := "ab1009f3488455d85c12c36a7501f1fe75bbba3978ac7b1d02a7d2136a4ec70b", func := "governor/governorlaw16.LayoutTells", spec := "layoutTells", inPlace := ["internal/abi.NoEscape", "internal/bytealg.MakeNoZero"], unfollowed := true, recurses := true, apart := false }
def LayoutTellsSaid : Prop := layoutTellsRow.holds Tryz.pinned (OpenSpec.ofChange layoutTellsSpec)

/-- ITS FALSE NEIGHBOUR: 'it returns false'. Refute it at one input. -/
def layoutTellsWrong : ChangeSpec := { name := "layoutTells", fn := fun _ => fun
  | [d] => { results := [.lit (.bool false)], args := [d] }
  | _ => none }
def LayoutTellsWrongFalsely : Prop := layoutTellsRow.holds Tryz.pinned (OpenSpec.ofChange layoutTellsWrong)

/- THE SECOND FORM. 'bulk': how many values and letters a reading holds, each counted each time it is reached (what is shared counts as often as it is met; a slice's spare places count too). A statement '..UptoSaid' is the law's where the arguments, and the package variables that the reading takes, are together of bulk at most 1048576: NARROWER than '..Said'. Prove '..Said' where nothing that the law and all that it calls make is longer than what came in: it says more and counts as full. Else prove '..UptoSaid'. A law counts once. -/
mutual
def uptoBulk {H : Type} : DataW H → Nat
  | .lit (.string bytes) => bytes.length + 1
  | .lit _ => 1
  | .nil => 1
  | .ptr d => uptoBulk d + 1
  | .slice elems spare => uptoBulkAll elems + uptoBulkAll spare + 1
  | .agg parts => uptoBulkAll parts + 1
  | .iface _ d => uptoBulk d + 1
  | .map entries => uptoBulkEntries entries + 1
  | .held _ => 1
def uptoBulkAll {H : Type} : List (DataW H) → Nat
  | [] => 0
  | d :: r => uptoBulk d + uptoBulkAll r
def uptoBulkEntries {H : Type} : List (Lit × DataW H) → Nat
  | [] => 0
  | x :: r => uptoBulkEntry x + uptoBulkEntries r
def uptoBulkEntry {H : Type} : Lit × DataW H → Nat
  | (.string bytes, d) => bytes.length + uptoBulk d + 1
  | (_, d) => uptoBulk d + 1
 end
def uptoSmall : (H : Type) → List (DataW H) → Bool := fun _ ds => decide (uptoBulkAll ds ≤ 1048576)
def OpenSpec.upto (s : _root_.Go.ChangeSpec) : _root_.Go.OpenSpec := { _root_.Go.OpenSpec.ofChange s with cond := some uptoSmall }

/-- 'governorlaw16.LayoutSums', WHERE WHAT IT READS IS OF BULK AT MOST 1048576: true; the input reads as it did. -/
def layoutSumsUptoRow : OpenClaim := { program := "ytdbfbedholdjaaagreat", sum := "ab1009f3488455d85c12c36a7501f1fe75bbba3978ac7b1d02a7d2136a4ec70b", func := "governor/governorlaw16.LayoutSums", spec := "layoutSums", inPlace := ["internal/abi.NoEscape", "internal/bytealg.MakeNoZero"], unfollowed := true, recurses := true, apart := false, narrowed := true }
def LayoutSumsUptoSaid : Prop := layoutSumsUptoRow.holds Tryz.pinned (OpenSpec.upto layoutSumsSpec)

/-- 'governorlaw16.LayoutPrefix', WHERE WHAT IT READS IS OF BULK AT MOST 1048576: true; the input reads as it did. -/
def layoutPrefixUptoRow : OpenClaim := { program := "ytdbfbedholdjaaagreat", sum := "ab1009f3488455d85c12c36a7501f1fe75bbba3978ac7b1d02a7d2136a4ec70b", func := "governor/governorlaw16.LayoutPrefix", spec := "layoutPrefix", inPlace := ["internal/abi.NoEscape", "internal/bytealg.MakeNoZero"], unfollowed := true, recurses := true, apart := false, narrowed := true }
def LayoutPrefixUptoSaid : Prop := layoutPrefixUptoRow.holds Tryz.pinned (OpenSpec.upto layoutPrefixSpec)

/-- 'governorlaw16.LayoutGrows', WHERE WHAT IT READS IS OF BULK AT MOST 1048576: true; the input reads as it did. -/
def layoutGrowsUptoRow : OpenClaim := { program := "ytdbfbedholdjaaagreat", sum := "ab1009f3488455d85c12c36a7501f1fe75bbba3978ac7b1d02a7d2136a4ec70b", func := "governor/governorlaw16.LayoutGrows", spec := "layoutGrows", inPlace := ["internal/abi.NoEscape", "internal/bytealg.MakeNoZero"], unfollowed := true, recurses := true, apart := false, narrowed := true }
def LayoutGrowsUptoSaid : Prop := layoutGrowsUptoRow.holds Tryz.pinned (OpenSpec.upto layoutGrowsSpec)

/-- 'governorlaw16.LayoutTells', WHERE WHAT IT READS IS OF BULK AT MOST 1048576: true; the input reads as it did. -/
def layoutTellsUptoRow : OpenClaim := { program := "ytdbfbedholdjaaagreat", sum := "ab1009f3488455d85c12c36a7501f1fe75bbba3978ac7b1d02a7d2136a4ec70b", func := "governor/governorlaw16.LayoutTells", spec := "layoutTells", inPlace := ["internal/abi.NoEscape", "internal/bytealg.MakeNoZero"], unfollowed := true, recurses := true, apart := false, narrowed := true }
def LayoutTellsUptoSaid : Prop := layoutTellsUptoRow.holds Tryz.pinned (OpenSpec.upto layoutTellsSpec)

end Rows
end Go.Proofs.YtdbfbedholdjaaaGreat

/-
  No cell of these rows narrows 'for every input' (looked for: loops, veiled, ifaces, maps, wideKeys, modest, calm, conditions, laid).
  DERIVED. THE GIVEN ROWS OF THIS SEAT. 17 by the template 'for every input the law returns true; each argument reads behind the call as it read before'; 0 by the template 'total and deterministic' (their statements: YthmmdmnbcecooaaTotals.lean).
  GIVEN WITH THE SEED: the statements are not yours to turn. If you find one false, say at which input.
  Laid BY PROGRAM, IN A SANDBOX (cutbox-rows.mjs): the forced cells as the released guide's own fill.sh prints them over the translation 8e0ddb36f563395f… (all of the seat's roots in one cut). By AI agents, Wed Nov 11 2026. No macro, syntax, notation, axiom, sorry.
-/
import Derived.Test.YthmmdmnbcecooaaChecked
import GoSem.Claim
import GoSem.ClaimJoined
import GoSem.ClaimMapViews
import Derived.JoinedTies
import Derived.KernelRfl
namespace Go.Proofs.Ythmmdmnbcecooaa
/- THE CELL 'sum', in the pinned program and in every row, IS THE sha256 OF THE DUMP (.gsa) THAT YthmmdmnbcecooaaProg.lean LOADS. Nothing in Lean hashes anything: it is a label: what it is worth is what the hold of that sum in a sandbox is worth. -/
noncomputable def Try.pinned : Pinned := { name := "ythmmdmnbcecooaa", sum := "8e0ddb36f563395fecb62e1b9a8ea68fca616263bc49aaf1e394647672d0b02d", checked := Try.checked }
namespace Rows
def none {H : Type} : Left H := { results := [], args := [] }

/-- 'koinelaw25.DocumentMatchesReference': WHATEVER THE INPUT: true; the input reads as it did. -/
def documentMatchesReferenceSpec : ChangeSpec := { name := "documentMatchesReference", fn := fun _ => fun
  | [d1, d2, d3] => { results := [.lit (.bool true)], args := [d1, d2, d3] }
  | _ => none }
def documentMatchesReferenceRow : OpenClaim := { program := "ythmmdmnbcecooaa", sum := "8e0ddb36f563395fecb62e1b9a8ea68fca616263bc49aaf1e394647672d0b02d", func := "koine/koinelaw25.DocumentMatchesReference", spec := "documentMatchesReference", inPlace := ["internal/bytealg.IndexByteString", "internal/bytealg.IndexString"], unfollowed := true, recurses := true, named := ["internal/bytealg.MaxLen"], plainKeys := false, apart := false }
def DocumentMatchesReferenceSaid : Prop := documentMatchesReferenceRow.holds Try.pinned (OpenSpec.ofChange documentMatchesReferenceSpec)

/-- ITS FALSE NEIGHBOUR: 'it returns false'. Refute it at one input. -/
def documentMatchesReferenceWrong : ChangeSpec := { name := "documentMatchesReference", fn := fun _ => fun
  | [d1, d2, d3] => { results := [.lit (.bool false)], args := [d1, d2, d3] }
  | _ => none }
def DocumentMatchesReferenceWrongFalsely : Prop := documentMatchesReferenceRow.holds Try.pinned (OpenSpec.ofChange documentMatchesReferenceWrong)

/-- 'koinelaw25.DocumentAnyMatchesReference': WHATEVER THE INPUT: true; the input reads as it did. -/
def documentAnyMatchesReferenceSpec : ChangeSpec := { name := "documentAnyMatchesReference", fn := fun _ => fun
  | [d1, d2, d3] => { results := [.lit (.bool true)], args := [d1, d2, d3] }
  | _ => none }
def documentAnyMatchesReferenceRow : OpenClaim := { program := "ythmmdmnbcecooaa", sum := "8e0ddb36f563395fecb62e1b9a8ea68fca616263bc49aaf1e394647672d0b02d", func := "koine/koinelaw25.DocumentAnyMatchesReference", spec := "documentAnyMatchesReference", inPlace := ["internal/bytealg.IndexByteString", "internal/bytealg.IndexString"], unfollowed := true, recurses := true, named := ["internal/bytealg.MaxLen"], plainKeys := false, apart := false }
def DocumentAnyMatchesReferenceSaid : Prop := documentAnyMatchesReferenceRow.holds Try.pinned (OpenSpec.ofChange documentAnyMatchesReferenceSpec)

/-- ITS FALSE NEIGHBOUR: 'it returns false'. Refute it at one input. -/
def documentAnyMatchesReferenceWrong : ChangeSpec := { name := "documentAnyMatchesReference", fn := fun _ => fun
  | [d1, d2, d3] => { results := [.lit (.bool false)], args := [d1, d2, d3] }
  | _ => none }
def DocumentAnyMatchesReferenceWrongFalsely : Prop := documentAnyMatchesReferenceRow.holds Try.pinned (OpenSpec.ofChange documentAnyMatchesReferenceWrong)

/-- 'koinelaw25.DocumentSize': WHATEVER THE INPUT: true; the input reads as it did. -/
def documentSizeSpec : ChangeSpec := { name := "documentSize", fn := fun _ => fun
  | [d] => { results := [.lit (.bool true)], args := [d] }
  | _ => none }
def documentSizeRow : OpenClaim := { program := "ythmmdmnbcecooaa", sum := "8e0ddb36f563395fecb62e1b9a8ea68fca616263bc49aaf1e394647672d0b02d", func := "koine/koinelaw25.DocumentSize", spec := "documentSize", inPlace := ["internal/bytealg.IndexByteString", "internal/bytealg.IndexString"], unfollowed := true, recurses := true, named := ["internal/bytealg.MaxLen"], plainKeys := false, apart := false }
def DocumentSizeSaid : Prop := documentSizeRow.holds Try.pinned (OpenSpec.ofChange documentSizeSpec)

/-- ITS FALSE NEIGHBOUR: 'it returns false'. Refute it at one input. -/
def documentSizeWrong : ChangeSpec := { name := "documentSize", fn := fun _ => fun
  | [d] => { results := [.lit (.bool false)], args := [d] }
  | _ => none }
def DocumentSizeWrongFalsely : Prop := documentSizeRow.holds Try.pinned (OpenSpec.ofChange documentSizeWrong)

/-- 'koinelaw25.DocumentContents': WHATEVER THE INPUT: true; the input reads as it did. -/
def documentContentsSpec : ChangeSpec := { name := "documentContents", fn := fun _ => fun
  | [d1, d2, d3] => { results := [.lit (.bool true)], args := [d1, d2, d3] }
  | _ => none }
def documentContentsRow : OpenClaim := { program := "ythmmdmnbcecooaa", sum := "8e0ddb36f563395fecb62e1b9a8ea68fca616263bc49aaf1e394647672d0b02d", func := "koine/koinelaw25.DocumentContents", spec := "documentContents", inPlace := ["internal/bytealg.IndexByteString", "internal/bytealg.IndexString"], unfollowed := true, recurses := true, named := ["internal/bytealg.MaxLen"], plainKeys := false, apart := false }
def DocumentContentsSaid : Prop := documentContentsRow.holds Try.pinned (OpenSpec.ofChange documentContentsSpec)

/-- ITS FALSE NEIGHBOUR: 'it returns false'. Refute it at one input. -/
def documentContentsWrong : ChangeSpec := { name := "documentContents", fn := fun _ => fun
  | [d1, d2, d3] => { results := [.lit (.bool false)], args := [d1, d2, d3] }
  | _ => none }
def DocumentContentsWrongFalsely : Prop := documentContentsRow.holds Try.pinned (OpenSpec.ofChange documentContentsWrong)

/-- 'koinelaw26.LayoutLines': WHATEVER THE INPUT: true; the input reads as it did. -/
def layoutLinesSpec : ChangeSpec := { name := "layoutLines", fn := fun _ => fun
  | [d1, d2] => { results := [.lit (.bool true)], args := [d1, d2] }
  | _ => none }
def layoutLinesRow : OpenClaim := { program := "ythmmdmnbcecooaa", sum := "8e0ddb36f563395fecb62e1b9a8ea68fca616263bc49aaf1e394647672d0b02d", func := "koine/koinelaw26.LayoutLines", spec := "layoutLines", inPlace := ["internal/bytealg.IndexByteString", "internal/bytealg.IndexString", "internal/abi.NoEscape", "internal/bytealg.MakeNoZero"], unfollowed := true, recurses := true, named := ["internal/bytealg.MaxLen"], plainKeys := false, apart := false }
def LayoutLinesSaid : Prop := layoutLinesRow.holds Try.pinned (OpenSpec.ofChange layoutLinesSpec)

/-- ITS FALSE NEIGHBOUR: 'it returns false'. Refute it at one input. -/
def layoutLinesWrong : ChangeSpec := { name := "layoutLines", fn := fun _ => fun
  | [d1, d2] => { results := [.lit (.bool false)], args := [d1, d2] }
  | _ => none }
def LayoutLinesWrongFalsely : Prop := layoutLinesRow.holds Try.pinned (OpenSpec.ofChange layoutLinesWrong)

/-- 'koinelaw25.DocumentFlat': WHATEVER THE INPUT: true; the input reads as it did. -/
def documentFlatSpec : ChangeSpec := { name := "documentFlat", fn := fun _ => fun
  | [d1, d2, d3] => { results := [.lit (.bool true)], args := [d1, d2, d3] }
  | _ => none }
def documentFlatRow : OpenClaim := { program := "ythmmdmnbcecooaa", sum := "8e0ddb36f563395fecb62e1b9a8ea68fca616263bc49aaf1e394647672d0b02d", func := "koine/koinelaw25.DocumentFlat", spec := "documentFlat", inPlace := ["internal/bytealg.IndexByteString", "internal/bytealg.IndexString"], unfollowed := true, recurses := true, named := ["internal/bytealg.MaxLen"], plainKeys := false, apart := false }
def DocumentFlatSaid : Prop := documentFlatRow.holds Try.pinned (OpenSpec.ofChange documentFlatSpec)

/-- ITS FALSE NEIGHBOUR: 'it returns false'. Refute it at one input. -/
def documentFlatWrong : ChangeSpec := { name := "documentFlat", fn := fun _ => fun
  | [d1, d2, d3] => { results := [.lit (.bool false)], args := [d1, d2, d3] }
  | _ => none }
def DocumentFlatWrongFalsely : Prop := documentFlatRow.holds Try.pinned (OpenSpec.ofChange documentFlatWrong)

/-- 'koinelaw26.LayoutFills': WHATEVER THE INPUT: true; the input reads as it did. -/
def layoutFillsSpec : ChangeSpec := { name := "layoutFills", fn := fun _ => fun
  | [d1, d2] => { results := [.lit (.bool true)], args := [d1, d2] }
  | _ => none }
def layoutFillsRow : OpenClaim := { program := "ythmmdmnbcecooaa", sum := "8e0ddb36f563395fecb62e1b9a8ea68fca616263bc49aaf1e394647672d0b02d", func := "koine/koinelaw26.LayoutFills", spec := "layoutFills", inPlace := ["internal/bytealg.IndexByteString", "internal/bytealg.IndexString", "internal/abi.NoEscape", "internal/bytealg.MakeNoZero"], unfollowed := true, recurses := true, named := ["internal/bytealg.MaxLen"], plainKeys := false, apart := false }
def LayoutFillsSaid : Prop := layoutFillsRow.holds Try.pinned (OpenSpec.ofChange layoutFillsSpec)

/-- ITS FALSE NEIGHBOUR: 'it returns false'. Refute it at one input. -/
def layoutFillsWrong : ChangeSpec := { name := "layoutFills", fn := fun _ => fun
  | [d1, d2] => { results := [.lit (.bool false)], args := [d1, d2] }
  | _ => none }
def LayoutFillsWrongFalsely : Prop := layoutFillsRow.holds Try.pinned (OpenSpec.ofChange layoutFillsWrong)

/-- 'koinelaw25.DocumentSequences': WHATEVER THE INPUT: true; the input reads as it did. -/
def documentSequencesSpec : ChangeSpec := { name := "documentSequences", fn := fun _ => fun
  | [d1, d2, d3] => { results := [.lit (.bool true)], args := [d1, d2, d3] }
  | _ => none }
def documentSequencesRow : OpenClaim := { program := "ythmmdmnbcecooaa", sum := "8e0ddb36f563395fecb62e1b9a8ea68fca616263bc49aaf1e394647672d0b02d", func := "koine/koinelaw25.DocumentSequences", spec := "documentSequences", inPlace := ["internal/bytealg.IndexByteString", "internal/bytealg.IndexString"], unfollowed := true, recurses := true, named := ["internal/bytealg.MaxLen"], plainKeys := false, apart := false }
def DocumentSequencesSaid : Prop := documentSequencesRow.holds Try.pinned (OpenSpec.ofChange documentSequencesSpec)

/-- ITS FALSE NEIGHBOUR: 'it returns false'. Refute it at one input. -/
def documentSequencesWrong : ChangeSpec := { name := "documentSequences", fn := fun _ => fun
  | [d1, d2, d3] => { results := [.lit (.bool false)], args := [d1, d2, d3] }
  | _ => none }
def DocumentSequencesWrongFalsely : Prop := documentSequencesRow.holds Try.pinned (OpenSpec.ofChange documentSequencesWrong)

/-- 'koinelaw25.DocumentIndentation': WHATEVER THE INPUT: true; the input reads as it did. -/
def documentIndentationSpec : ChangeSpec := { name := "documentIndentation", fn := fun _ => fun
  | [d1, d2, d3] => { results := [.lit (.bool true)], args := [d1, d2, d3] }
  | _ => none }
def documentIndentationRow : OpenClaim := { program := "ythmmdmnbcecooaa", sum := "8e0ddb36f563395fecb62e1b9a8ea68fca616263bc49aaf1e394647672d0b02d", func := "koine/koinelaw25.DocumentIndentation", spec := "documentIndentation", inPlace := ["internal/bytealg.IndexByteString", "internal/bytealg.IndexString"], unfollowed := true, recurses := true, named := ["internal/bytealg.MaxLen"], plainKeys := false, apart := false }
def DocumentIndentationSaid : Prop := documentIndentationRow.holds Try.pinned (OpenSpec.ofChange documentIndentationSpec)

/-- ITS FALSE NEIGHBOUR: 'it returns false'. Refute it at one input. -/
def documentIndentationWrong : ChangeSpec := { name := "documentIndentation", fn := fun _ => fun
  | [d1, d2, d3] => { results := [.lit (.bool false)], args := [d1, d2, d3] }
  | _ => none }
def DocumentIndentationWrongFalsely : Prop := documentIndentationRow.holds Try.pinned (OpenSpec.ofChange documentIndentationWrong)

/-- 'koinelaw25.DocumentAlign': WHATEVER THE INPUT: true; the input reads as it did. -/
def documentAlignSpec : ChangeSpec := { name := "documentAlign", fn := fun _ => fun
  | [d1, d2, d3] => { results := [.lit (.bool true)], args := [d1, d2, d3] }
  | _ => none }
def documentAlignRow : OpenClaim := { program := "ythmmdmnbcecooaa", sum := "8e0ddb36f563395fecb62e1b9a8ea68fca616263bc49aaf1e394647672d0b02d", func := "koine/koinelaw25.DocumentAlign", spec := "documentAlign", inPlace := ["internal/bytealg.IndexByteString", "internal/bytealg.IndexString"], unfollowed := true, recurses := true, named := ["internal/bytealg.MaxLen"], plainKeys := false, apart := false }
def DocumentAlignSaid : Prop := documentAlignRow.holds Try.pinned (OpenSpec.ofChange documentAlignSpec)

/-- ITS FALSE NEIGHBOUR: 'it returns false'. Refute it at one input. -/
def documentAlignWrong : ChangeSpec := { name := "documentAlign", fn := fun _ => fun
  | [d1, d2, d3] => { results := [.lit (.bool false)], args := [d1, d2, d3] }
  | _ => none }
def DocumentAlignWrongFalsely : Prop := documentAlignRow.holds Try.pinned (OpenSpec.ofChange documentAlignWrong)

/-- 'koinelaw25.DocumentCosts': WHATEVER THE INPUT: true; the input reads as it did. -/
def documentCostsSpec : ChangeSpec := { name := "documentCosts", fn := fun _ => fun
  | [d1, d2, d3] => { results := [.lit (.bool true)], args := [d1, d2, d3] }
  | _ => none }
def documentCostsRow : OpenClaim := { program := "ythmmdmnbcecooaa", sum := "8e0ddb36f563395fecb62e1b9a8ea68fca616263bc49aaf1e394647672d0b02d", func := "koine/koinelaw25.DocumentCosts", spec := "documentCosts", inPlace := ["internal/bytealg.IndexByteString", "internal/bytealg.IndexString"], unfollowed := true, recurses := true, named := ["internal/bytealg.MaxLen"], plainKeys := false, apart := false }
def DocumentCostsSaid : Prop := documentCostsRow.holds Try.pinned (OpenSpec.ofChange documentCostsSpec)

/-- ITS FALSE NEIGHBOUR: 'it returns false'. Refute it at one input. -/
def documentCostsWrong : ChangeSpec := { name := "documentCosts", fn := fun _ => fun
  | [d1, d2, d3] => { results := [.lit (.bool false)], args := [d1, d2, d3] }
  | _ => none }
def DocumentCostsWrongFalsely : Prop := documentCostsRow.holds Try.pinned (OpenSpec.ofChange documentCostsWrong)

/-- 'koinelaw26.LayoutMatchesReference': WHATEVER THE INPUT: true; the input reads as it did. -/
def layoutMatchesReferenceSpec : ChangeSpec := { name := "layoutMatchesReference", fn := fun _ => fun
  | [d1, d2] => { results := [.lit (.bool true)], args := [d1, d2] }
  | _ => none }
def layoutMatchesReferenceRow : OpenClaim := { program := "ythmmdmnbcecooaa", sum := "8e0ddb36f563395fecb62e1b9a8ea68fca616263bc49aaf1e394647672d0b02d", func := "koine/koinelaw26.LayoutMatchesReference", spec := "layoutMatchesReference", inPlace := ["internal/bytealg.IndexByteString", "internal/bytealg.IndexString", "internal/abi.NoEscape", "internal/bytealg.MakeNoZero"], unfollowed := true, recurses := true, named := ["internal/bytealg.MaxLen"], plainKeys := false, apart := false }
def LayoutMatchesReferenceSaid : Prop := layoutMatchesReferenceRow.holds Try.pinned (OpenSpec.ofChange layoutMatchesReferenceSpec)

/-- ITS FALSE NEIGHBOUR: 'it returns false'. Refute it at one input. -/
def layoutMatchesReferenceWrong : ChangeSpec := { name := "layoutMatchesReference", fn := fun _ => fun
  | [d1, d2] => { results := [.lit (.bool false)], args := [d1, d2] }
  | _ => none }
def LayoutMatchesReferenceWrongFalsely : Prop := layoutMatchesReferenceRow.holds Try.pinned (OpenSpec.ofChange layoutMatchesReferenceWrong)

/-- 'koinelaw26.LayoutMadeMatchesReference': WHATEVER THE INPUT: true; the input reads as it did. -/
def layoutMadeMatchesReferenceSpec : ChangeSpec := { name := "layoutMadeMatchesReference", fn := fun _ => fun
  | [d1, d2] => { results := [.lit (.bool true)], args := [d1, d2] }
  | _ => none }
def layoutMadeMatchesReferenceRow : OpenClaim := { program := "ythmmdmnbcecooaa", sum := "8e0ddb36f563395fecb62e1b9a8ea68fca616263bc49aaf1e394647672d0b02d", func := "koine/koinelaw26.LayoutMadeMatchesReference", spec := "layoutMadeMatchesReference", inPlace := ["internal/bytealg.IndexByteString", "internal/bytealg.IndexString", "internal/abi.NoEscape", "internal/bytealg.MakeNoZero"], unfollowed := true, recurses := true, named := ["internal/bytealg.MaxLen"], plainKeys := false, apart := false }
def LayoutMadeMatchesReferenceSaid : Prop := layoutMadeMatchesReferenceRow.holds Try.pinned (OpenSpec.ofChange layoutMadeMatchesReferenceSpec)

/-- ITS FALSE NEIGHBOUR: 'it returns false'. Refute it at one input. -/
def layoutMadeMatchesReferenceWrong : ChangeSpec := { name := "layoutMadeMatchesReference", fn := fun _ => fun
  | [d1, d2] => { results := [.lit (.bool false)], args := [d1, d2] }
  | _ => none }
def LayoutMadeMatchesReferenceWrongFalsely : Prop := layoutMadeMatchesReferenceRow.holds Try.pinned (OpenSpec.ofChange layoutMadeMatchesReferenceWrong)

/-- 'koinelaw26.LayoutLeast': WHATEVER THE INPUT: true; the input reads as it did. -/
def layoutLeastSpec : ChangeSpec := { name := "layoutLeast", fn := fun _ => fun
  | [d1, d2, d3] => { results := [.lit (.bool true)], args := [d1, d2, d3] }
  | _ => none }
def layoutLeastRow : OpenClaim := { program := "ythmmdmnbcecooaa", sum := "8e0ddb36f563395fecb62e1b9a8ea68fca616263bc49aaf1e394647672d0b02d", func := "koine/koinelaw26.LayoutLeast", spec := "layoutLeast", inPlace := ["internal/bytealg.IndexByteString", "internal/bytealg.IndexString", "internal/abi.NoEscape", "internal/bytealg.MakeNoZero"], unfollowed := true, recurses := true, named := ["internal/bytealg.MaxLen"], plainKeys := false, apart := false }
def LayoutLeastSaid : Prop := layoutLeastRow.holds Try.pinned (OpenSpec.ofChange layoutLeastSpec)

/-- ITS FALSE NEIGHBOUR: 'it returns false'. Refute it at one input. -/
def layoutLeastWrong : ChangeSpec := { name := "layoutLeast", fn := fun _ => fun
  | [d1, d2, d3] => { results := [.lit (.bool false)], args := [d1, d2, d3] }
  | _ => none }
def LayoutLeastWrongFalsely : Prop := layoutLeastRow.holds Try.pinned (OpenSpec.ofChange layoutLeastWrong)

/-- 'koinelaw26.LayoutFlat': WHATEVER THE INPUT: true; the input reads as it did. -/
def layoutFlatSpec : ChangeSpec := { name := "layoutFlat", fn := fun _ => fun
  | [d1, d2] => { results := [.lit (.bool true)], args := [d1, d2] }
  | _ => none }
def layoutFlatRow : OpenClaim := { program := "ythmmdmnbcecooaa", sum := "8e0ddb36f563395fecb62e1b9a8ea68fca616263bc49aaf1e394647672d0b02d", func := "koine/koinelaw26.LayoutFlat", spec := "layoutFlat", inPlace := ["internal/bytealg.IndexByteString", "internal/bytealg.IndexString", "internal/abi.NoEscape", "internal/bytealg.MakeNoZero"], unfollowed := true, recurses := true, named := ["internal/bytealg.MaxLen"], plainKeys := false, apart := false }
def LayoutFlatSaid : Prop := layoutFlatRow.holds Try.pinned (OpenSpec.ofChange layoutFlatSpec)

/-- ITS FALSE NEIGHBOUR: 'it returns false'. Refute it at one input. -/
def layoutFlatWrong : ChangeSpec := { name := "layoutFlat", fn := fun _ => fun
  | [d1, d2] => { results := [.lit (.bool false)], args := [d1, d2] }
  | _ => none }
def LayoutFlatWrongFalsely : Prop := layoutFlatRow.holds Try.pinned (OpenSpec.ofChange layoutFlatWrong)

/-- 'koinelaw26.LayoutWidths': WHATEVER THE INPUT: true; the input reads as it did. -/
def layoutWidthsSpec : ChangeSpec := { name := "layoutWidths", fn := fun _ => fun
  | [d1, d2, d3] => { results := [.lit (.bool true)], args := [d1, d2, d3] }
  | _ => none }
def layoutWidthsRow : OpenClaim := { program := "ythmmdmnbcecooaa", sum := "8e0ddb36f563395fecb62e1b9a8ea68fca616263bc49aaf1e394647672d0b02d", func := "koine/koinelaw26.LayoutWidths", spec := "layoutWidths", inPlace := ["internal/bytealg.IndexByteString", "internal/bytealg.IndexString", "internal/abi.NoEscape", "internal/bytealg.MakeNoZero"], unfollowed := true, recurses := true, named := ["internal/bytealg.MaxLen"], plainKeys := false, apart := false }
def LayoutWidthsSaid : Prop := layoutWidthsRow.holds Try.pinned (OpenSpec.ofChange layoutWidthsSpec)

/-- ITS FALSE NEIGHBOUR: 'it returns false'. Refute it at one input. -/
def layoutWidthsWrong : ChangeSpec := { name := "layoutWidths", fn := fun _ => fun
  | [d1, d2, d3] => { results := [.lit (.bool false)], args := [d1, d2, d3] }
  | _ => none }
def LayoutWidthsWrongFalsely : Prop := layoutWidthsRow.holds Try.pinned (OpenSpec.ofChange layoutWidthsWrong)

/-- 'koinelaw26.LayoutCongruence': WHATEVER THE INPUT: true; the input reads as it did. -/
def layoutCongruenceSpec : ChangeSpec := { name := "layoutCongruence", fn := fun _ => fun
  | [d1, d2] => { results := [.lit (.bool true)], args := [d1, d2] }
  | _ => none }
def layoutCongruenceRow : OpenClaim := { program := "ythmmdmnbcecooaa", sum := "8e0ddb36f563395fecb62e1b9a8ea68fca616263bc49aaf1e394647672d0b02d", func := "koine/koinelaw26.LayoutCongruence", spec := "layoutCongruence", inPlace := ["internal/bytealg.IndexByteString", "internal/bytealg.IndexString", "internal/abi.NoEscape", "internal/bytealg.MakeNoZero"], unfollowed := true, recurses := true, named := ["internal/bytealg.MaxLen"], plainKeys := false, apart := false }
def LayoutCongruenceSaid : Prop := layoutCongruenceRow.holds Try.pinned (OpenSpec.ofChange layoutCongruenceSpec)

/-- ITS FALSE NEIGHBOUR: 'it returns false'. Refute it at one input. -/
def layoutCongruenceWrong : ChangeSpec := { name := "layoutCongruence", fn := fun _ => fun
  | [d1, d2] => { results := [.lit (.bool false)], args := [d1, d2] }
  | _ => none }
def LayoutCongruenceWrongFalsely : Prop := layoutCongruenceRow.holds Try.pinned (OpenSpec.ofChange layoutCongruenceWrong)

/- THE SECOND FORM. 'bulk': how many values and letters a reading holds, each counted each time it is reached (what is shared counts as often as it is met; a slice's spare places count too). A statement '..UptoSaid' is the law's where the arguments, and the package variables that the reading takes, are together of bulk at most 1048576: NARROWER than '..Said'. Prove '..Said' where nothing that the law and all that it calls make is longer than what came in: it says more and counts as full. Else prove '..UptoSaid'. A law counts once. -/
mutual
def uptoBulk {H : Type} : DataW H → Nat
  | .lit (.string bytes) => bytes.length + 1
  | .lit _ => 1
  | .nil => 1
  | .ptr d => uptoBulk d + 1
  | .slice elems spare => uptoBulkAll elems + uptoBulkAll spare + 1
  | .agg parts => uptoBulkAll parts + 1
  | .iface _ d => uptoBulk d + 1
  | .map entries => uptoBulkEntries entries + 1
  | .held _ => 1
def uptoBulkAll {H : Type} : List (DataW H) → Nat
  | [] => 0
  | d :: r => uptoBulk d + uptoBulkAll r
def uptoBulkEntries {H : Type} : List (Lit × DataW H) → Nat
  | [] => 0
  | x :: r => uptoBulkEntry x + uptoBulkEntries r
def uptoBulkEntry {H : Type} : Lit × DataW H → Nat
  | (.string bytes, d) => bytes.length + uptoBulk d + 1
  | (_, d) => uptoBulk d + 1
 end
def uptoSmall : (H : Type) → List (DataW H) → Bool := fun _ ds => decide (uptoBulkAll ds ≤ 1048576)
def OpenSpec.upto (s : _root_.Go.ChangeSpec) : _root_.Go.OpenSpec := { _root_.Go.OpenSpec.ofChange s with cond := some uptoSmall }

/-- 'koinelaw25.DocumentMatchesReference', WHERE WHAT IT READS IS OF BULK AT MOST 1048576: true; the input reads as it did. -/
def documentMatchesReferenceUptoRow : OpenClaim := { program := "ythmmdmnbcecooaa", sum := "8e0ddb36f563395fecb62e1b9a8ea68fca616263bc49aaf1e394647672d0b02d", func := "koine/koinelaw25.DocumentMatchesReference", spec := "documentMatchesReference", inPlace := ["internal/bytealg.IndexByteString", "internal/bytealg.IndexString"], unfollowed := true, recurses := true, named := ["internal/bytealg.MaxLen"], plainKeys := false, apart := false, narrowed := true }
def DocumentMatchesReferenceUptoSaid : Prop := documentMatchesReferenceUptoRow.holds Try.pinned (OpenSpec.upto documentMatchesReferenceSpec)

/-- 'koinelaw25.DocumentAnyMatchesReference', WHERE WHAT IT READS IS OF BULK AT MOST 1048576: true; the input reads as it did. -/
def documentAnyMatchesReferenceUptoRow : OpenClaim := { program := "ythmmdmnbcecooaa", sum := "8e0ddb36f563395fecb62e1b9a8ea68fca616263bc49aaf1e394647672d0b02d", func := "koine/koinelaw25.DocumentAnyMatchesReference", spec := "documentAnyMatchesReference", inPlace := ["internal/bytealg.IndexByteString", "internal/bytealg.IndexString"], unfollowed := true, recurses := true, named := ["internal/bytealg.MaxLen"], plainKeys := false, apart := false, narrowed := true }
def DocumentAnyMatchesReferenceUptoSaid : Prop := documentAnyMatchesReferenceUptoRow.holds Try.pinned (OpenSpec.upto documentAnyMatchesReferenceSpec)

/-- 'koinelaw25.DocumentSize', WHERE WHAT IT READS IS OF BULK AT MOST 1048576: true; the input reads as it did. -/
def documentSizeUptoRow : OpenClaim := { program := "ythmmdmnbcecooaa", sum := "8e0ddb36f563395fecb62e1b9a8ea68fca616263bc49aaf1e394647672d0b02d", func := "koine/koinelaw25.DocumentSize", spec := "documentSize", inPlace := ["internal/bytealg.IndexByteString", "internal/bytealg.IndexString"], unfollowed := true, recurses := true, named := ["internal/bytealg.MaxLen"], plainKeys := false, apart := false, narrowed := true }
def DocumentSizeUptoSaid : Prop := documentSizeUptoRow.holds Try.pinned (OpenSpec.upto documentSizeSpec)

/-- 'koinelaw25.DocumentContents', WHERE WHAT IT READS IS OF BULK AT MOST 1048576: true; the input reads as it did. -/
def documentContentsUptoRow : OpenClaim := { program := "ythmmdmnbcecooaa", sum := "8e0ddb36f563395fecb62e1b9a8ea68fca616263bc49aaf1e394647672d0b02d", func := "koine/koinelaw25.DocumentContents", spec := "documentContents", inPlace := ["internal/bytealg.IndexByteString", "internal/bytealg.IndexString"], unfollowed := true, recurses := true, named := ["internal/bytealg.MaxLen"], plainKeys := false, apart := false, narrowed := true }
def DocumentContentsUptoSaid : Prop := documentContentsUptoRow.holds Try.pinned (OpenSpec.upto documentContentsSpec)

/-- 'koinelaw26.LayoutLines', WHERE WHAT IT READS IS OF BULK AT MOST 1048576: true; the input reads as it did. -/
def layoutLinesUptoRow : OpenClaim := { program := "ythmmdmnbcecooaa", sum := "8e0ddb36f563395fecb62e1b9a8ea68fca616263bc49aaf1e394647672d0b02d", func := "koine/koinelaw26.LayoutLines", spec := "layoutLines", inPlace := ["internal/bytealg.IndexByteString", "internal/bytealg.IndexString", "internal/abi.NoEscape", "internal/bytealg.MakeNoZero"], unfollowed := true, recurses := true, named := ["internal/bytealg.MaxLen"], plainKeys := false, apart := false, narrowed := true }
def LayoutLinesUptoSaid : Prop := layoutLinesUptoRow.holds Try.pinned (OpenSpec.upto layoutLinesSpec)

/-- 'koinelaw25.DocumentFlat', WHERE WHAT IT READS IS OF BULK AT MOST 1048576: true; the input reads as it did. -/
def documentFlatUptoRow : OpenClaim := { program := "ythmmdmnbcecooaa", sum := "8e0ddb36f563395fecb62e1b9a8ea68fca616263bc49aaf1e394647672d0b02d", func := "koine/koinelaw25.DocumentFlat", spec := "documentFlat", inPlace := ["internal/bytealg.IndexByteString", "internal/bytealg.IndexString"], unfollowed := true, recurses := true, named := ["internal/bytealg.MaxLen"], plainKeys := false, apart := false, narrowed := true }
def DocumentFlatUptoSaid : Prop := documentFlatUptoRow.holds Try.pinned (OpenSpec.upto documentFlatSpec)

/-- 'koinelaw26.LayoutFills', WHERE WHAT IT READS IS OF BULK AT MOST 1048576: true; the input reads as it did. -/
def layoutFillsUptoRow : OpenClaim := { program := "ythmmdmnbcecooaa", sum := "8e0ddb36f563395fecb62e1b9a8ea68fca616263bc49aaf1e394647672d0b02d", func := "koine/koinelaw26.LayoutFills", spec := "layoutFills", inPlace := ["internal/bytealg.IndexByteString", "internal/bytealg.IndexString", "internal/abi.NoEscape", "internal/bytealg.MakeNoZero"], unfollowed := true, recurses := true, named := ["internal/bytealg.MaxLen"], plainKeys := false, apart := false, narrowed := true }
def LayoutFillsUptoSaid : Prop := layoutFillsUptoRow.holds Try.pinned (OpenSpec.upto layoutFillsSpec)

/-- 'koinelaw25.DocumentSequences', WHERE WHAT IT READS IS OF BULK AT MOST 1048576: true; the input reads as it did. -/
def documentSequencesUptoRow : OpenClaim := { program := "ythmmdmnbcecooaa", sum := "8e0ddb36f563395fecb62e1b9a8ea68fca616263bc49aaf1e394647672d0b02d", func := "koine/koinelaw25.DocumentSequences", spec := "documentSequences", inPlace := ["internal/bytealg.IndexByteString", "internal/bytealg.IndexString"], unfollowed := true, recurses := true, named := ["internal/bytealg.MaxLen"], plainKeys := false, apart := false, narrowed := true }
def DocumentSequencesUptoSaid : Prop := documentSequencesUptoRow.holds Try.pinned (OpenSpec.upto documentSequencesSpec)

/-- 'koinelaw25.DocumentIndentation', WHERE WHAT IT READS IS OF BULK AT MOST 1048576: true; the input reads as it did. -/
def documentIndentationUptoRow : OpenClaim := { program := "ythmmdmnbcecooaa", sum := "8e0ddb36f563395fecb62e1b9a8ea68fca616263bc49aaf1e394647672d0b02d", func := "koine/koinelaw25.DocumentIndentation", spec := "documentIndentation", inPlace := ["internal/bytealg.IndexByteString", "internal/bytealg.IndexString"], unfollowed := true, recurses := true, named := ["internal/bytealg.MaxLen"], plainKeys := false, apart := false, narrowed := true }
def DocumentIndentationUptoSaid : Prop := documentIndentationUptoRow.holds Try.pinned (OpenSpec.upto documentIndentationSpec)

/-- 'koinelaw25.DocumentAlign', WHERE WHAT IT READS IS OF BULK AT MOST 1048576: true; the input reads as it did. -/
def documentAlignUptoRow : OpenClaim := { program := "ythmmdmnbcecooaa", sum := "8e0ddb36f563395fecb62e1b9a8ea68fca616263bc49aaf1e394647672d0b02d", func := "koine/koinelaw25.DocumentAlign", spec := "documentAlign", inPlace := ["internal/bytealg.IndexByteString", "internal/bytealg.IndexString"], unfollowed := true, recurses := true, named := ["internal/bytealg.MaxLen"], plainKeys := false, apart := false, narrowed := true }
def DocumentAlignUptoSaid : Prop := documentAlignUptoRow.holds Try.pinned (OpenSpec.upto documentAlignSpec)

/-- 'koinelaw25.DocumentCosts', WHERE WHAT IT READS IS OF BULK AT MOST 1048576: true; the input reads as it did. -/
def documentCostsUptoRow : OpenClaim := { program := "ythmmdmnbcecooaa", sum := "8e0ddb36f563395fecb62e1b9a8ea68fca616263bc49aaf1e394647672d0b02d", func := "koine/koinelaw25.DocumentCosts", spec := "documentCosts", inPlace := ["internal/bytealg.IndexByteString", "internal/bytealg.IndexString"], unfollowed := true, recurses := true, named := ["internal/bytealg.MaxLen"], plainKeys := false, apart := false, narrowed := true }
def DocumentCostsUptoSaid : Prop := documentCostsUptoRow.holds Try.pinned (OpenSpec.upto documentCostsSpec)

/-- 'koinelaw26.LayoutMatchesReference', WHERE WHAT IT READS IS OF BULK AT MOST 1048576: true; the input reads as it did. -/
def layoutMatchesReferenceUptoRow : OpenClaim := { program := "ythmmdmnbcecooaa", sum := "8e0ddb36f563395fecb62e1b9a8ea68fca616263bc49aaf1e394647672d0b02d", func := "koine/koinelaw26.LayoutMatchesReference", spec := "layoutMatchesReference", inPlace := ["internal/bytealg.IndexByteString", "internal/bytealg.IndexString", "internal/abi.NoEscape", "internal/bytealg.MakeNoZero"], unfollowed := true, recurses := true, named := ["internal/bytealg.MaxLen"], plainKeys := false, apart := false, narrowed := true }
def LayoutMatchesReferenceUptoSaid : Prop := layoutMatchesReferenceUptoRow.holds Try.pinned (OpenSpec.upto layoutMatchesReferenceSpec)

/-- 'koinelaw26.LayoutMadeMatchesReference', WHERE WHAT IT READS IS OF BULK AT MOST 1048576: true; the input reads as it did. -/
def layoutMadeMatchesReferenceUptoRow : OpenClaim := { program := "ythmmdmnbcecooaa", sum := "8e0ddb36f563395fecb62e1b9a8ea68fca616263bc49aaf1e394647672d0b02d", func := "koine/koinelaw26.LayoutMadeMatchesReference", spec := "layoutMadeMatchesReference", inPlace := ["internal/bytealg.IndexByteString", "internal/bytealg.IndexString", "internal/abi.NoEscape", "internal/bytealg.MakeNoZero"], unfollowed := true, recurses := true, named := ["internal/bytealg.MaxLen"], plainKeys := false, apart := false, narrowed := true }
def LayoutMadeMatchesReferenceUptoSaid : Prop := layoutMadeMatchesReferenceUptoRow.holds Try.pinned (OpenSpec.upto layoutMadeMatchesReferenceSpec)

/-- 'koinelaw26.LayoutLeast', WHERE WHAT IT READS IS OF BULK AT MOST 1048576: true; the input reads as it did. -/
def layoutLeastUptoRow : OpenClaim := { program := "ythmmdmnbcecooaa", sum := "8e0ddb36f563395fecb62e1b9a8ea68fca616263bc49aaf1e394647672d0b02d", func := "koine/koinelaw26.LayoutLeast", spec := "layoutLeast", inPlace := ["internal/bytealg.IndexByteString", "internal/bytealg.IndexString", "internal/abi.NoEscape", "internal/bytealg.MakeNoZero"], unfollowed := true, recurses := true, named := ["internal/bytealg.MaxLen"], plainKeys := false, apart := false, narrowed := true }
def LayoutLeastUptoSaid : Prop := layoutLeastUptoRow.holds Try.pinned (OpenSpec.upto layoutLeastSpec)

/-- 'koinelaw26.LayoutFlat', WHERE WHAT IT READS IS OF BULK AT MOST 1048576: true; the input reads as it did. -/
def layoutFlatUptoRow : OpenClaim := { program := "ythmmdmnbcecooaa", sum := "8e0ddb36f563395fecb62e1b9a8ea68fca616263bc49aaf1e394647672d0b02d", func := "koine/koinelaw26.LayoutFlat", spec := "layoutFlat", inPlace := ["internal/bytealg.IndexByteString", "internal/bytealg.IndexString", "internal/abi.NoEscape", "internal/bytealg.MakeNoZero"], unfollowed := true, recurses := true, named := ["internal/bytealg.MaxLen"], plainKeys := false, apart := false, narrowed := true }
def LayoutFlatUptoSaid : Prop := layoutFlatUptoRow.holds Try.pinned (OpenSpec.upto layoutFlatSpec)

/-- 'koinelaw26.LayoutWidths', WHERE WHAT IT READS IS OF BULK AT MOST 1048576: true; the input reads as it did. -/
def layoutWidthsUptoRow : OpenClaim := { program := "ythmmdmnbcecooaa", sum := "8e0ddb36f563395fecb62e1b9a8ea68fca616263bc49aaf1e394647672d0b02d", func := "koine/koinelaw26.LayoutWidths", spec := "layoutWidths", inPlace := ["internal/bytealg.IndexByteString", "internal/bytealg.IndexString", "internal/abi.NoEscape", "internal/bytealg.MakeNoZero"], unfollowed := true, recurses := true, named := ["internal/bytealg.MaxLen"], plainKeys := false, apart := false, narrowed := true }
def LayoutWidthsUptoSaid : Prop := layoutWidthsUptoRow.holds Try.pinned (OpenSpec.upto layoutWidthsSpec)

/-- 'koinelaw26.LayoutCongruence', WHERE WHAT IT READS IS OF BULK AT MOST 1048576: true; the input reads as it did. -/
def layoutCongruenceUptoRow : OpenClaim := { program := "ythmmdmnbcecooaa", sum := "8e0ddb36f563395fecb62e1b9a8ea68fca616263bc49aaf1e394647672d0b02d", func := "koine/koinelaw26.LayoutCongruence", spec := "layoutCongruence", inPlace := ["internal/bytealg.IndexByteString", "internal/bytealg.IndexString", "internal/abi.NoEscape", "internal/bytealg.MakeNoZero"], unfollowed := true, recurses := true, named := ["internal/bytealg.MaxLen"], plainKeys := false, apart := false, narrowed := true }
def LayoutCongruenceUptoSaid : Prop := layoutCongruenceUptoRow.holds Try.pinned (OpenSpec.upto layoutCongruenceSpec)

end Rows
end Go.Proofs.Ythmmdmnbcecooaa

/-
  NARROWER THAN 'FOR EVERY INPUT', by the rows' own cells (each row's printed sentence says how): FnExactCountOf: laid · FnExactDepthOf: laid · FnRanks: laid · FnExactSubtermAt: laid · FnExactRaiseSymbol: laid · FnExactBindingFault: laid · FnExactPackTerm: laid · FnExactShiftTerm: laid · FnExactReplaceAt: laid · FnExactTermText: laid · FnReplaces: laid · FnExactKeyOf: laid.
  DERIVED. THE GIVEN ROWS OF THIS SEAT. 12 by the template 'for every input the law returns true; each argument reads behind the call as it read before'; 0 by the template 'total and deterministic' (their statements: YtjamapijodcnbaaDoorTotals.lean).
  GIVEN WITH THE SEED: the statements are not yours to turn. If you find one false, say at which input.
  Laid BY PROGRAM, IN A SANDBOX (cutbox-rows.mjs): the forced cells as the released guide's own fill.sh prints them over the translation 2be9f68b968f43cb… (all of the seat's roots in one cut). By AI agents, Wed Nov 11 2026. No macro, syntax, notation, axiom, sorry.
-/
import Derived.Test.YtjamapijodcnbaaDoorChecked
import GoSem.PinnedTables
import GoSem.Claim
import GoSem.ClaimJoined
import GoSem.ClaimMapViews
import Derived.JoinedTies
import Derived.KernelRfl
namespace Go.Proofs.YtjamapijodcnbaaDoor
/- THE CELL 'sum', in the pinned program and in every row, IS THE sha256 OF THE DUMP (.gsa) THAT YtjamapijodcnbaaDoorProg.lean LOADS. Nothing in Lean hashes anything: it is a label: what it is worth is what the hold of that sum in a sandbox is worth. -/
noncomputable def Tryd.pinned : Pinned := { name := "ytjamapijodcnbaadoor", sum := "2be9f68b968f43cb5c6cba052f937b0eedcac5ca7f3fcad663c93c6b2ac6b140", checked := Tryd.checked }
namespace Rows
def none {H : Type} : Left H := { results := [], args := [] }

/- WHAT THE LISTED PACKAGE-LEVEL VARIABLES READ AS WHEN THE CALL BEGINS. Each datum BY PROGRAM (the guide's laid-datum.mjs) off the statement by which the dump's own 'gosem.cut.vars' lays the variable. In a bare row this is a premise. The card (YtjamapijodcnbaaDoorCards.lean) ties it to the program's text. -/
def laid_unicode_utf8_acceptRanges {H : Type} : DataW H := .agg [.agg [.lit (.int .u8 128), .lit (.int .u8 191)], .agg [.lit (.int .u8 160), .lit (.int .u8 191)], .agg [.lit (.int .u8 128), .lit (.int .u8 159)], .agg [.lit (.int .u8 144), .lit (.int .u8 191)], .agg [.lit (.int .u8 128), .lit (.int .u8 143)], .agg [.lit (.int .u8 0), .lit (.int .u8 0)], .agg [.lit (.int .u8 0), .lit (.int .u8 0)], .agg [.lit (.int .u8 0), .lit (.int .u8 0)], .agg [.lit (.int .u8 0), .lit (.int .u8 0)], .agg [.lit (.int .u8 0), .lit (.int .u8 0)], .agg [.lit (.int .u8 0), .lit (.int .u8 0)], .agg [.lit (.int .u8 0), .lit (.int .u8 0)], .agg [.lit (.int .u8 0), .lit (.int .u8 0)], .agg [.lit (.int .u8 0), .lit (.int .u8 0)], .agg [.lit (.int .u8 0), .lit (.int .u8 0)], .agg [.lit (.int .u8 0), .lit (.int .u8 0)]]
/-- One of Go's own tables, pinned by name: the form's constant. -/
def laid_unicode_utf8_first : DataW Unit := Go.Pinned.utf8First

/-- 'laws.FnExactCountOf': WHATEVER THE INPUT: true; the input reads as it did. -/
def fnExactCountOfSpec : ChangeSpec := { name := "fnExactCountOf", fn := fun _ => fun
  | [d1, d2, d3] => { results := [.lit (.bool true)], args := [d1, d2, d3] }
  | _ => none }
def fnExactCountOfRow : OpenClaim := { program := "ytjamapijodcnbaadoor", sum := "2be9f68b968f43cb5c6cba052f937b0eedcac5ca7f3fcad663c93c6b2ac6b140", func := "loop.example/g00653/laws.FnExactCountOf", spec := "fnExactCountOf", inPlace := ["internal/bytealg.IndexByteString", "internal/bytealg.IndexString"], unfollowed := true, recurses := true, named := ["unicode/utf8.first", "unicode/utf8.acceptRanges", "internal/bytealg.MaxLen"], apart := false, laid := [("unicode/utf8.acceptRanges", laid_unicode_utf8_acceptRanges), ("unicode/utf8.first", laid_unicode_utf8_first)] }
def FnExactCountOfSaid : Prop := fnExactCountOfRow.holds Tryd.pinned (OpenSpec.ofChange fnExactCountOfSpec)

/-- ITS FALSE NEIGHBOUR: 'it returns false'. Refute it at one input. -/
def fnExactCountOfWrong : ChangeSpec := { name := "fnExactCountOf", fn := fun _ => fun
  | [d1, d2, d3] => { results := [.lit (.bool false)], args := [d1, d2, d3] }
  | _ => none }
def FnExactCountOfWrongFalsely : Prop := fnExactCountOfRow.holds Tryd.pinned (OpenSpec.ofChange fnExactCountOfWrong)

/-- 'laws.FnExactDepthOf': WHATEVER THE INPUT: true; the input reads as it did. -/
def fnExactDepthOfSpec : ChangeSpec := { name := "fnExactDepthOf", fn := fun _ => fun
  | [d1, d2] => { results := [.lit (.bool true)], args := [d1, d2] }
  | _ => none }
def fnExactDepthOfRow : OpenClaim := { program := "ytjamapijodcnbaadoor", sum := "2be9f68b968f43cb5c6cba052f937b0eedcac5ca7f3fcad663c93c6b2ac6b140", func := "loop.example/g00653/laws.FnExactDepthOf", spec := "fnExactDepthOf", inPlace := ["internal/bytealg.IndexByteString", "internal/bytealg.IndexString"], unfollowed := true, recurses := true, named := ["unicode/utf8.first", "unicode/utf8.acceptRanges", "internal/bytealg.MaxLen"], apart := false, laid := [("unicode/utf8.acceptRanges", laid_unicode_utf8_acceptRanges), ("unicode/utf8.first", laid_unicode_utf8_first)] }
def FnExactDepthOfSaid : Prop := fnExactDepthOfRow.holds Tryd.pinned (OpenSpec.ofChange fnExactDepthOfSpec)

/-- ITS FALSE NEIGHBOUR: 'it returns false'. Refute it at one input. -/
def fnExactDepthOfWrong : ChangeSpec := { name := "fnExactDepthOf", fn := fun _ => fun
  | [d1, d2] => { results := [.lit (.bool false)], args := [d1, d2] }
  | _ => none }
def FnExactDepthOfWrongFalsely : Prop := fnExactDepthOfRow.holds Tryd.pinned (OpenSpec.ofChange fnExactDepthOfWrong)

/-- 'laws.FnRanks': WHATEVER THE INPUT: true; the input reads as it did. -/
def fnRanksSpec : ChangeSpec := { name := "fnRanks", fn := fun _ => fun
  | [d] => { results := [.lit (.bool true)], args := [d] }
  | _ => none }
def fnRanksRow : OpenClaim := { program := "ytjamapijodcnbaadoor", sum := "2be9f68b968f43cb5c6cba052f937b0eedcac5ca7f3fcad663c93c6b2ac6b140", func := "loop.example/g00653/laws.FnRanks", spec := "fnRanks", inPlace := ["internal/bytealg.IndexByteString", "internal/bytealg.IndexString"], unfollowed := true, recurses := true, named := ["unicode/utf8.first", "unicode/utf8.acceptRanges", "internal/bytealg.MaxLen"], apart := false, laid := [("unicode/utf8.acceptRanges", laid_unicode_utf8_acceptRanges), ("unicode/utf8.first", laid_unicode_utf8_first)] }
def FnRanksSaid : Prop := fnRanksRow.holds Tryd.pinned (OpenSpec.ofChange fnRanksSpec)

/-- ITS FALSE NEIGHBOUR: 'it returns false'. Refute it at one input. -/
def fnRanksWrong : ChangeSpec := { name := "fnRanks", fn := fun _ => fun
  | [d] => { results := [.lit (.bool false)], args := [d] }
  | _ => none }
def FnRanksWrongFalsely : Prop := fnRanksRow.holds Tryd.pinned (OpenSpec.ofChange fnRanksWrong)

/-- 'laws.FnExactSubtermAt': WHATEVER THE INPUT: true; the input reads as it did. -/
def fnExactSubtermAtSpec : ChangeSpec := { name := "fnExactSubtermAt", fn := fun _ => fun
  | [d1, d2, d3] => { results := [.lit (.bool true)], args := [d1, d2, d3] }
  | _ => none }
def fnExactSubtermAtRow : OpenClaim := { program := "ytjamapijodcnbaadoor", sum := "2be9f68b968f43cb5c6cba052f937b0eedcac5ca7f3fcad663c93c6b2ac6b140", func := "loop.example/g00653/laws.FnExactSubtermAt", spec := "fnExactSubtermAt", inPlace := ["internal/bytealg.IndexByteString", "internal/bytealg.IndexString"], unfollowed := true, recurses := true, named := ["unicode/utf8.first", "unicode/utf8.acceptRanges", "internal/bytealg.MaxLen"], apart := false, laid := [("unicode/utf8.acceptRanges", laid_unicode_utf8_acceptRanges), ("unicode/utf8.first", laid_unicode_utf8_first)] }
def FnExactSubtermAtSaid : Prop := fnExactSubtermAtRow.holds Tryd.pinned (OpenSpec.ofChange fnExactSubtermAtSpec)

/-- ITS FALSE NEIGHBOUR: 'it returns false'. Refute it at one input. -/
def fnExactSubtermAtWrong : ChangeSpec := { name := "fnExactSubtermAt", fn := fun _ => fun
  | [d1, d2, d3] => { results := [.lit (.bool false)], args := [d1, d2, d3] }
  | _ => none }
def FnExactSubtermAtWrongFalsely : Prop := fnExactSubtermAtRow.holds Tryd.pinned (OpenSpec.ofChange fnExactSubtermAtWrong)

/-- 'laws.FnExactRaiseSymbol': WHATEVER THE INPUT: true; the input reads as it did. -/
def fnExactRaiseSymbolSpec : ChangeSpec := { name := "fnExactRaiseSymbol", fn := fun _ => fun
  | [d1, d2, d3] => { results := [.lit (.bool true)], args := [d1, d2, d3] }
  | _ => none }
def fnExactRaiseSymbolRow : OpenClaim := { program := "ytjamapijodcnbaadoor", sum := "2be9f68b968f43cb5c6cba052f937b0eedcac5ca7f3fcad663c93c6b2ac6b140", func := "loop.example/g00653/laws.FnExactRaiseSymbol", spec := "fnExactRaiseSymbol", inPlace := ["internal/bytealg.IndexByteString", "internal/bytealg.IndexString"], unfollowed := true, recurses := true, named := ["unicode/utf8.first", "unicode/utf8.acceptRanges", "internal/bytealg.MaxLen"], apart := false, laid := [("unicode/utf8.acceptRanges", laid_unicode_utf8_acceptRanges), ("unicode/utf8.first", laid_unicode_utf8_first)] }
def FnExactRaiseSymbolSaid : Prop := fnExactRaiseSymbolRow.holds Tryd.pinned (OpenSpec.ofChange fnExactRaiseSymbolSpec)

/-- ITS FALSE NEIGHBOUR: 'it returns false'. Refute it at one input. -/
def fnExactRaiseSymbolWrong : ChangeSpec := { name := "fnExactRaiseSymbol", fn := fun _ => fun
  | [d1, d2, d3] => { results := [.lit (.bool false)], args := [d1, d2, d3] }
  | _ => none }
def FnExactRaiseSymbolWrongFalsely : Prop := fnExactRaiseSymbolRow.holds Tryd.pinned (OpenSpec.ofChange fnExactRaiseSymbolWrong)

/-- 'laws.FnExactBindingFault': WHATEVER THE INPUT: true; the input reads as it did. -/
def fnExactBindingFaultSpec : ChangeSpec := { name := "fnExactBindingFault", fn := fun _ => fun
  | [d1, d2] => { results := [.lit (.bool true)], args := [d1, d2] }
  | _ => none }
def fnExactBindingFaultRow : OpenClaim := { program := "ytjamapijodcnbaadoor", sum := "2be9f68b968f43cb5c6cba052f937b0eedcac5ca7f3fcad663c93c6b2ac6b140", func := "loop.example/g00653/laws.FnExactBindingFault", spec := "fnExactBindingFault", inPlace := ["internal/bytealg.IndexByteString", "internal/bytealg.IndexString"], unfollowed := true, recurses := true, named := ["unicode/utf8.first", "unicode/utf8.acceptRanges", "internal/bytealg.MaxLen"], apart := false, laid := [("unicode/utf8.acceptRanges", laid_unicode_utf8_acceptRanges), ("unicode/utf8.first", laid_unicode_utf8_first)] }
def FnExactBindingFaultSaid : Prop := fnExactBindingFaultRow.holds Tryd.pinned (OpenSpec.ofChange fnExactBindingFaultSpec)

/-- ITS FALSE NEIGHBOUR: 'it returns false'. Refute it at one input. -/
def fnExactBindingFaultWrong : ChangeSpec := { name := "fnExactBindingFault", fn := fun _ => fun
  | [d1, d2] => { results := [.lit (.bool false)], args := [d1, d2] }
  | _ => none }
def FnExactBindingFaultWrongFalsely : Prop := fnExactBindingFaultRow.holds Tryd.pinned (OpenSpec.ofChange fnExactBindingFaultWrong)

/-- 'laws.FnExactPackTerm': WHATEVER THE INPUT: true; the input reads as it did. -/
def fnExactPackTermSpec : ChangeSpec := { name := "fnExactPackTerm", fn := fun _ => fun
  | [d1, d2] => { results := [.lit (.bool true)], args := [d1, d2] }
  | _ => none }
def fnExactPackTermRow : OpenClaim := { program := "ytjamapijodcnbaadoor", sum := "2be9f68b968f43cb5c6cba052f937b0eedcac5ca7f3fcad663c93c6b2ac6b140", func := "loop.example/g00653/laws.FnExactPackTerm", spec := "fnExactPackTerm", inPlace := ["internal/bytealg.IndexByteString", "internal/bytealg.IndexString"], unfollowed := true, recurses := true, named := ["unicode/utf8.first", "unicode/utf8.acceptRanges", "internal/bytealg.MaxLen"], apart := false, laid := [("unicode/utf8.acceptRanges", laid_unicode_utf8_acceptRanges), ("unicode/utf8.first", laid_unicode_utf8_first)] }
def FnExactPackTermSaid : Prop := fnExactPackTermRow.holds Tryd.pinned (OpenSpec.ofChange fnExactPackTermSpec)

/-- ITS FALSE NEIGHBOUR: 'it returns false'. Refute it at one input. -/
def fnExactPackTermWrong : ChangeSpec := { name := "fnExactPackTerm", fn := fun _ => fun
  | [d1, d2] => { results := [.lit (.bool false)], args := [d1, d2] }
  | _ => none }
def FnExactPackTermWrongFalsely : Prop := fnExactPackTermRow.holds Tryd.pinned (OpenSpec.ofChange fnExactPackTermWrong)

/-- 'laws.FnExactShiftTerm': WHATEVER THE INPUT: true; the input reads as it did. -/
def fnExactShiftTermSpec : ChangeSpec := { name := "fnExactShiftTerm", fn := fun _ => fun
  | [d1, d2, d3] => { results := [.lit (.bool true)], args := [d1, d2, d3] }
  | _ => none }
def fnExactShiftTermRow : OpenClaim := { program := "ytjamapijodcnbaadoor", sum := "2be9f68b968f43cb5c6cba052f937b0eedcac5ca7f3fcad663c93c6b2ac6b140", func := "loop.example/g00653/laws.FnExactShiftTerm", spec := "fnExactShiftTerm", inPlace := ["internal/bytealg.IndexByteString", "internal/bytealg.IndexString"], unfollowed := true, recurses := true, named := ["unicode/utf8.first", "unicode/utf8.acceptRanges", "internal/bytealg.MaxLen"], apart := false, laid := [("unicode/utf8.acceptRanges", laid_unicode_utf8_acceptRanges), ("unicode/utf8.first", laid_unicode_utf8_first)] }
def FnExactShiftTermSaid : Prop := fnExactShiftTermRow.holds Tryd.pinned (OpenSpec.ofChange fnExactShiftTermSpec)

/-- ITS FALSE NEIGHBOUR: 'it returns false'. Refute it at one input. -/
def fnExactShiftTermWrong : ChangeSpec := { name := "fnExactShiftTerm", fn := fun _ => fun
  | [d1, d2, d3] => { results := [.lit (.bool false)], args := [d1, d2, d3] }
  | _ => none }
def FnExactShiftTermWrongFalsely : Prop := fnExactShiftTermRow.holds Tryd.pinned (OpenSpec.ofChange fnExactShiftTermWrong)

/-- 'laws.FnExactReplaceAt': WHATEVER THE INPUT: true; the input reads as it did. -/
def fnExactReplaceAtSpec : ChangeSpec := { name := "fnExactReplaceAt", fn := fun _ => fun
  | [d1, d2, d3, d4] => { results := [.lit (.bool true)], args := [d1, d2, d3, d4] }
  | _ => none }
def fnExactReplaceAtRow : OpenClaim := { program := "ytjamapijodcnbaadoor", sum := "2be9f68b968f43cb5c6cba052f937b0eedcac5ca7f3fcad663c93c6b2ac6b140", func := "loop.example/g00653/laws.FnExactReplaceAt", spec := "fnExactReplaceAt", inPlace := ["internal/bytealg.IndexByteString", "internal/bytealg.IndexString"], unfollowed := true, recurses := true, named := ["unicode/utf8.first", "unicode/utf8.acceptRanges", "internal/bytealg.MaxLen"], apart := false, laid := [("unicode/utf8.acceptRanges", laid_unicode_utf8_acceptRanges), ("unicode/utf8.first", laid_unicode_utf8_first)] }
def FnExactReplaceAtSaid : Prop := fnExactReplaceAtRow.holds Tryd.pinned (OpenSpec.ofChange fnExactReplaceAtSpec)

/-- ITS FALSE NEIGHBOUR: 'it returns false'. Refute it at one input. -/
def fnExactReplaceAtWrong : ChangeSpec := { name := "fnExactReplaceAt", fn := fun _ => fun
  | [d1, d2, d3, d4] => { results := [.lit (.bool false)], args := [d1, d2, d3, d4] }
  | _ => none }
def FnExactReplaceAtWrongFalsely : Prop := fnExactReplaceAtRow.holds Tryd.pinned (OpenSpec.ofChange fnExactReplaceAtWrong)

/-- 'laws.FnExactTermText': WHATEVER THE INPUT: true; the input reads as it did. -/
def fnExactTermTextSpec : ChangeSpec := { name := "fnExactTermText", fn := fun _ => fun
  | [d1, d2] => { results := [.lit (.bool true)], args := [d1, d2] }
  | _ => none }
def fnExactTermTextRow : OpenClaim := { program := "ytjamapijodcnbaadoor", sum := "2be9f68b968f43cb5c6cba052f937b0eedcac5ca7f3fcad663c93c6b2ac6b140", func := "loop.example/g00653/laws.FnExactTermText", spec := "fnExactTermText", inPlace := ["internal/bytealg.IndexByteString", "internal/bytealg.IndexString", "internal/abi.NoEscape", "internal/bytealg.MakeNoZero"], unfollowed := true, recurses := true, named := ["unicode/utf8.first", "unicode/utf8.acceptRanges", "internal/bytealg.MaxLen"], apart := false, laid := [("unicode/utf8.acceptRanges", laid_unicode_utf8_acceptRanges), ("unicode/utf8.first", laid_unicode_utf8_first)] }
def FnExactTermTextSaid : Prop := fnExactTermTextRow.holds Tryd.pinned (OpenSpec.ofChange fnExactTermTextSpec)

/-- ITS FALSE NEIGHBOUR: 'it returns false'. Refute it at one input. -/
def fnExactTermTextWrong : ChangeSpec := { name := "fnExactTermText", fn := fun _ => fun
  | [d1, d2] => { results := [.lit (.bool false)], args := [d1, d2] }
  | _ => none }
def FnExactTermTextWrongFalsely : Prop := fnExactTermTextRow.holds Tryd.pinned (OpenSpec.ofChange fnExactTermTextWrong)

/-- 'laws.FnReplaces': WHATEVER THE INPUT: true; the input reads as it did. -/
def fnReplacesSpec : ChangeSpec := { name := "fnReplaces", fn := fun _ => fun
  | [d] => { results := [.lit (.bool true)], args := [d] }
  | _ => none }
def fnReplacesRow : OpenClaim := { program := "ytjamapijodcnbaadoor", sum := "2be9f68b968f43cb5c6cba052f937b0eedcac5ca7f3fcad663c93c6b2ac6b140", func := "loop.example/g00653/laws.FnReplaces", spec := "fnReplaces", inPlace := ["internal/bytealg.IndexByteString", "internal/bytealg.IndexString"], unfollowed := true, recurses := true, named := ["unicode/utf8.first", "unicode/utf8.acceptRanges", "internal/bytealg.MaxLen"], apart := false, laid := [("unicode/utf8.acceptRanges", laid_unicode_utf8_acceptRanges), ("unicode/utf8.first", laid_unicode_utf8_first)] }
def FnReplacesSaid : Prop := fnReplacesRow.holds Tryd.pinned (OpenSpec.ofChange fnReplacesSpec)

/-- ITS FALSE NEIGHBOUR: 'it returns false'. Refute it at one input. -/
def fnReplacesWrong : ChangeSpec := { name := "fnReplaces", fn := fun _ => fun
  | [d] => { results := [.lit (.bool false)], args := [d] }
  | _ => none }
def FnReplacesWrongFalsely : Prop := fnReplacesRow.holds Tryd.pinned (OpenSpec.ofChange fnReplacesWrong)

/-- 'laws.FnExactKeyOf': WHATEVER THE INPUT: true; the input reads as it did. -/
def fnExactKeyOfSpec : ChangeSpec := { name := "fnExactKeyOf", fn := fun _ => fun
  | [d1, d2, d3] => { results := [.lit (.bool true)], args := [d1, d2, d3] }
  | _ => none }
def fnExactKeyOfRow : OpenClaim := { program := "ytjamapijodcnbaadoor", sum := "2be9f68b968f43cb5c6cba052f937b0eedcac5ca7f3fcad663c93c6b2ac6b140", func := "loop.example/g00653/laws.FnExactKeyOf", spec := "fnExactKeyOf", inPlace := ["internal/bytealg.IndexByteString", "internal/bytealg.IndexString"], unfollowed := true, recurses := true, named := ["unicode/utf8.first", "unicode/utf8.acceptRanges", "internal/bytealg.MaxLen"], apart := false, laid := [("unicode/utf8.acceptRanges", laid_unicode_utf8_acceptRanges), ("unicode/utf8.first", laid_unicode_utf8_first)] }
def FnExactKeyOfSaid : Prop := fnExactKeyOfRow.holds Tryd.pinned (OpenSpec.ofChange fnExactKeyOfSpec)

/-- ITS FALSE NEIGHBOUR: 'it returns false'. Refute it at one input. -/
def fnExactKeyOfWrong : ChangeSpec := { name := "fnExactKeyOf", fn := fun _ => fun
  | [d1, d2, d3] => { results := [.lit (.bool false)], args := [d1, d2, d3] }
  | _ => none }
def FnExactKeyOfWrongFalsely : Prop := fnExactKeyOfRow.holds Tryd.pinned (OpenSpec.ofChange fnExactKeyOfWrong)

/- THE SECOND FORM. 'bulk': how many values and letters a reading holds, each counted each time it is reached (what is shared counts as often as it is met; a slice's spare places count too). A statement '..UptoSaid' is the law's where the arguments, and the package variables that the reading takes, are together of bulk at most 1048576: NARROWER than '..Said'. Prove '..Said' where nothing that the law and all that it calls make is longer than what came in: it says more and counts as full. Else prove '..UptoSaid'. A law counts once. -/
mutual
def uptoBulk {H : Type} : DataW H → Nat
  | .lit (.string bytes) => bytes.length + 1
  | .lit _ => 1
  | .nil => 1
  | .ptr d => uptoBulk d + 1
  | .slice elems spare => uptoBulkAll elems + uptoBulkAll spare + 1
  | .agg parts => uptoBulkAll parts + 1
  | .iface _ d => uptoBulk d + 1
  | .map entries => uptoBulkEntries entries + 1
  | .held _ => 1
def uptoBulkAll {H : Type} : List (DataW H) → Nat
  | [] => 0
  | d :: r => uptoBulk d + uptoBulkAll r
def uptoBulkEntries {H : Type} : List (Lit × DataW H) → Nat
  | [] => 0
  | x :: r => uptoBulkEntry x + uptoBulkEntries r
def uptoBulkEntry {H : Type} : Lit × DataW H → Nat
  | (.string bytes, d) => bytes.length + uptoBulk d + 1
  | (_, d) => uptoBulk d + 1
 end
def uptoSmall : (H : Type) → List (DataW H) → Bool := fun _ ds => decide (uptoBulkAll ds ≤ 1048576)
def OpenSpec.upto (s : _root_.Go.ChangeSpec) : _root_.Go.OpenSpec := { _root_.Go.OpenSpec.ofChange s with cond := some uptoSmall }

/-- 'laws.FnExactCountOf', WHERE WHAT IT READS IS OF BULK AT MOST 1048576: true; the input reads as it did. -/
def fnExactCountOfUptoRow : OpenClaim := { program := "ytjamapijodcnbaadoor", sum := "2be9f68b968f43cb5c6cba052f937b0eedcac5ca7f3fcad663c93c6b2ac6b140", func := "loop.example/g00653/laws.FnExactCountOf", spec := "fnExactCountOf", inPlace := ["internal/bytealg.IndexByteString", "internal/bytealg.IndexString"], unfollowed := true, recurses := true, named := ["unicode/utf8.first", "unicode/utf8.acceptRanges", "internal/bytealg.MaxLen"], apart := false, laid := [("unicode/utf8.acceptRanges", laid_unicode_utf8_acceptRanges), ("unicode/utf8.first", laid_unicode_utf8_first)], narrowed := true }
def FnExactCountOfUptoSaid : Prop := fnExactCountOfUptoRow.holds Tryd.pinned (OpenSpec.upto fnExactCountOfSpec)

/-- 'laws.FnExactDepthOf', WHERE WHAT IT READS IS OF BULK AT MOST 1048576: true; the input reads as it did. -/
def fnExactDepthOfUptoRow : OpenClaim := { program := "ytjamapijodcnbaadoor", sum := "2be9f68b968f43cb5c6cba052f937b0eedcac5ca7f3fcad663c93c6b2ac6b140", func := "loop.example/g00653/laws.FnExactDepthOf", spec := "fnExactDepthOf", inPlace := ["internal/bytealg.IndexByteString", "internal/bytealg.IndexString"], unfollowed := true, recurses := true, named := ["unicode/utf8.first", "unicode/utf8.acceptRanges", "internal/bytealg.MaxLen"], apart := false, laid := [("unicode/utf8.acceptRanges", laid_unicode_utf8_acceptRanges), ("unicode/utf8.first", laid_unicode_utf8_first)], narrowed := true }
def FnExactDepthOfUptoSaid : Prop := fnExactDepthOfUptoRow.holds Tryd.pinned (OpenSpec.upto fnExactDepthOfSpec)

/-- 'laws.FnRanks', WHERE WHAT IT READS IS OF BULK AT MOST 1048576: true; the input reads as it did. -/
def fnRanksUptoRow : OpenClaim := { program := "ytjamapijodcnbaadoor", sum := "2be9f68b968f43cb5c6cba052f937b0eedcac5ca7f3fcad663c93c6b2ac6b140", func := "loop.example/g00653/laws.FnRanks", spec := "fnRanks", inPlace := ["internal/bytealg.IndexByteString", "internal/bytealg.IndexString"], unfollowed := true, recurses := true, named := ["unicode/utf8.first", "unicode/utf8.acceptRanges", "internal/bytealg.MaxLen"], apart := false, laid := [("unicode/utf8.acceptRanges", laid_unicode_utf8_acceptRanges), ("unicode/utf8.first", laid_unicode_utf8_first)], narrowed := true }
def FnRanksUptoSaid : Prop := fnRanksUptoRow.holds Tryd.pinned (OpenSpec.upto fnRanksSpec)

/-- 'laws.FnExactSubtermAt', WHERE WHAT IT READS IS OF BULK AT MOST 1048576: true; the input reads as it did. -/
def fnExactSubtermAtUptoRow : OpenClaim := { program := "ytjamapijodcnbaadoor", sum := "2be9f68b968f43cb5c6cba052f937b0eedcac5ca7f3fcad663c93c6b2ac6b140", func := "loop.example/g00653/laws.FnExactSubtermAt", spec := "fnExactSubtermAt", inPlace := ["internal/bytealg.IndexByteString", "internal/bytealg.IndexString"], unfollowed := true, recurses := true, named := ["unicode/utf8.first", "unicode/utf8.acceptRanges", "internal/bytealg.MaxLen"], apart := false, laid := [("unicode/utf8.acceptRanges", laid_unicode_utf8_acceptRanges), ("unicode/utf8.first", laid_unicode_utf8_first)], narrowed := true }
def FnExactSubtermAtUptoSaid : Prop := fnExactSubtermAtUptoRow.holds Tryd.pinned (OpenSpec.upto fnExactSubtermAtSpec)

/-- 'laws.FnExactRaiseSymbol', WHERE WHAT IT READS IS OF BULK AT MOST 1048576: true; the input reads as it did. -/
def fnExactRaiseSymbolUptoRow : OpenClaim := { program := "ytjamapijodcnbaadoor", sum := "2be9f68b968f43cb5c6cba052f937b0eedcac5ca7f3fcad663c93c6b2ac6b140", func := "loop.example/g00653/laws.FnExactRaiseSymbol", spec := "fnExactRaiseSymbol", inPlace := ["internal/bytealg.IndexByteString", "internal/bytealg.IndexString"], unfollowed := true, recurses := true, named := ["unicode/utf8.first", "unicode/utf8.acceptRanges", "internal/bytealg.MaxLen"], apart := false, laid := [("unicode/utf8.acceptRanges", laid_unicode_utf8_acceptRanges), ("unicode/utf8.first", laid_unicode_utf8_first)], narrowed := true }
def FnExactRaiseSymbolUptoSaid : Prop := fnExactRaiseSymbolUptoRow.holds Tryd.pinned (OpenSpec.upto fnExactRaiseSymbolSpec)

/-- 'laws.FnExactBindingFault', WHERE WHAT IT READS IS OF BULK AT MOST 1048576: true; the input reads as it did. -/
def fnExactBindingFaultUptoRow : OpenClaim := { program := "ytjamapijodcnbaadoor", sum := "2be9f68b968f43cb5c6cba052f937b0eedcac5ca7f3fcad663c93c6b2ac6b140", func := "loop.example/g00653/laws.FnExactBindingFault", spec := "fnExactBindingFault", inPlace := ["internal/bytealg.IndexByteString", "internal/bytealg.IndexString"], unfollowed := true, recurses := true, named := ["unicode/utf8.first", "unicode/utf8.acceptRanges", "internal/bytealg.MaxLen"], apart := false, laid := [("unicode/utf8.acceptRanges", laid_unicode_utf8_acceptRanges), ("unicode/utf8.first", laid_unicode_utf8_first)], narrowed := true }
def FnExactBindingFaultUptoSaid : Prop := fnExactBindingFaultUptoRow.holds Tryd.pinned (OpenSpec.upto fnExactBindingFaultSpec)

/-- 'laws.FnExactPackTerm', WHERE WHAT IT READS IS OF BULK AT MOST 1048576: true; the input reads as it did. -/
def fnExactPackTermUptoRow : OpenClaim := { program := "ytjamapijodcnbaadoor", sum := "2be9f68b968f43cb5c6cba052f937b0eedcac5ca7f3fcad663c93c6b2ac6b140", func := "loop.example/g00653/laws.FnExactPackTerm", spec := "fnExactPackTerm", inPlace := ["internal/bytealg.IndexByteString", "internal/bytealg.IndexString"], unfollowed := true, recurses := true, named := ["unicode/utf8.first", "unicode/utf8.acceptRanges", "internal/bytealg.MaxLen"], apart := false, laid := [("unicode/utf8.acceptRanges", laid_unicode_utf8_acceptRanges), ("unicode/utf8.first", laid_unicode_utf8_first)], narrowed := true }
def FnExactPackTermUptoSaid : Prop := fnExactPackTermUptoRow.holds Tryd.pinned (OpenSpec.upto fnExactPackTermSpec)

/-- 'laws.FnExactShiftTerm', WHERE WHAT IT READS IS OF BULK AT MOST 1048576: true; the input reads as it did. -/
def fnExactShiftTermUptoRow : OpenClaim := { program := "ytjamapijodcnbaadoor", sum := "2be9f68b968f43cb5c6cba052f937b0eedcac5ca7f3fcad663c93c6b2ac6b140", func := "loop.example/g00653/laws.FnExactShiftTerm", spec := "fnExactShiftTerm", inPlace := ["internal/bytealg.IndexByteString", "internal/bytealg.IndexString"], unfollowed := true, recurses := true, named := ["unicode/utf8.first", "unicode/utf8.acceptRanges", "internal/bytealg.MaxLen"], apart := false, laid := [("unicode/utf8.acceptRanges", laid_unicode_utf8_acceptRanges), ("unicode/utf8.first", laid_unicode_utf8_first)], narrowed := true }
def FnExactShiftTermUptoSaid : Prop := fnExactShiftTermUptoRow.holds Tryd.pinned (OpenSpec.upto fnExactShiftTermSpec)

/-- 'laws.FnExactReplaceAt', WHERE WHAT IT READS IS OF BULK AT MOST 1048576: true; the input reads as it did. -/
def fnExactReplaceAtUptoRow : OpenClaim := { program := "ytjamapijodcnbaadoor", sum := "2be9f68b968f43cb5c6cba052f937b0eedcac5ca7f3fcad663c93c6b2ac6b140", func := "loop.example/g00653/laws.FnExactReplaceAt", spec := "fnExactReplaceAt", inPlace := ["internal/bytealg.IndexByteString", "internal/bytealg.IndexString"], unfollowed := true, recurses := true, named := ["unicode/utf8.first", "unicode/utf8.acceptRanges", "internal/bytealg.MaxLen"], apart := false, laid := [("unicode/utf8.acceptRanges", laid_unicode_utf8_acceptRanges), ("unicode/utf8.first", laid_unicode_utf8_first)], narrowed := true }
def FnExactReplaceAtUptoSaid : Prop := fnExactReplaceAtUptoRow.holds Tryd.pinned (OpenSpec.upto fnExactReplaceAtSpec)

/-- 'laws.FnExactTermText', WHERE WHAT IT READS IS OF BULK AT MOST 1048576: true; the input reads as it did. -/
def fnExactTermTextUptoRow : OpenClaim := { program := "ytjamapijodcnbaadoor", sum := "2be9f68b968f43cb5c6cba052f937b0eedcac5ca7f3fcad663c93c6b2ac6b140", func := "loop.example/g00653/laws.FnExactTermText", spec := "fnExactTermText", inPlace := ["internal/bytealg.IndexByteString", "internal/bytealg.IndexString", "internal/abi.NoEscape", "internal/bytealg.MakeNoZero"], unfollowed := true, recurses := true, named := ["unicode/utf8.first", "unicode/utf8.acceptRanges", "internal/bytealg.MaxLen"], apart := false, laid := [("unicode/utf8.acceptRanges", laid_unicode_utf8_acceptRanges), ("unicode/utf8.first", laid_unicode_utf8_first)], narrowed := true }
def FnExactTermTextUptoSaid : Prop := fnExactTermTextUptoRow.holds Tryd.pinned (OpenSpec.upto fnExactTermTextSpec)

/-- 'laws.FnReplaces', WHERE WHAT IT READS IS OF BULK AT MOST 1048576: true; the input reads as it did. -/
def fnReplacesUptoRow : OpenClaim := { program := "ytjamapijodcnbaadoor", sum := "2be9f68b968f43cb5c6cba052f937b0eedcac5ca7f3fcad663c93c6b2ac6b140", func := "loop.example/g00653/laws.FnReplaces", spec := "fnReplaces", inPlace := ["internal/bytealg.IndexByteString", "internal/bytealg.IndexString"], unfollowed := true, recurses := true, named := ["unicode/utf8.first", "unicode/utf8.acceptRanges", "internal/bytealg.MaxLen"], apart := false, laid := [("unicode/utf8.acceptRanges", laid_unicode_utf8_acceptRanges), ("unicode/utf8.first", laid_unicode_utf8_first)], narrowed := true }
def FnReplacesUptoSaid : Prop := fnReplacesUptoRow.holds Tryd.pinned (OpenSpec.upto fnReplacesSpec)

/-- 'laws.FnExactKeyOf', WHERE WHAT IT READS IS OF BULK AT MOST 1048576: true; the input reads as it did. -/
def fnExactKeyOfUptoRow : OpenClaim := { program := "ytjamapijodcnbaadoor", sum := "2be9f68b968f43cb5c6cba052f937b0eedcac5ca7f3fcad663c93c6b2ac6b140", func := "loop.example/g00653/laws.FnExactKeyOf", spec := "fnExactKeyOf", inPlace := ["internal/bytealg.IndexByteString", "internal/bytealg.IndexString"], unfollowed := true, recurses := true, named := ["unicode/utf8.first", "unicode/utf8.acceptRanges", "internal/bytealg.MaxLen"], apart := false, laid := [("unicode/utf8.acceptRanges", laid_unicode_utf8_acceptRanges), ("unicode/utf8.first", laid_unicode_utf8_first)], narrowed := true }
def FnExactKeyOfUptoSaid : Prop := fnExactKeyOfUptoRow.holds Tryd.pinned (OpenSpec.upto fnExactKeyOfSpec)

end Rows
end Go.Proofs.YtjamapijodcnbaaDoor

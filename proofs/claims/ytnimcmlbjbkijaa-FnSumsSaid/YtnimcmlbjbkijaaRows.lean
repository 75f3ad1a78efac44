/-
  No cell of these rows narrows 'for every input' (looked for: loops, veiled, ifaces, maps, wideKeys, modest, calm, conditions, laid).
  DERIVED. THE GIVEN ROWS OF THIS SEAT. 12 by the template 'for every input the law returns true; each argument reads behind the call as it read before'; 0 by the template 'total and deterministic' (their statements: YtnimcmlbjbkijaaTotals.lean).
  GIVEN WITH THE SEED: the statements are not yours to turn. If you find one false, say at which input.
  Laid BY PROGRAM, IN A SANDBOX (cutbox-rows.mjs): the forced cells as the released guide's own fill.sh prints them over the translation ca8fc14079a40311… (all of the seat's roots in one cut). By AI agents, Wed Nov 11 2026. No macro, syntax, notation, axiom, sorry.
-/
import Derived.Test.YtnimcmlbjbkijaaChecked
import GoSem.Claim
import GoSem.ClaimJoined
import GoSem.ClaimMapViews
import Derived.JoinedTies
import Derived.KernelRfl
namespace Go.Proofs.Ytnimcmlbjbkijaa
/- THE CELL 'sum', in the pinned program and in every row, IS THE sha256 OF THE DUMP (.gsa) THAT YtnimcmlbjbkijaaProg.lean LOADS. Nothing in Lean hashes anything: it is a label: what it is worth is what the hold of that sum in a sandbox is worth. -/
noncomputable def Try.pinned : Pinned := { name := "ytnimcmlbjbkijaa", sum := "ca8fc14079a4031150e827f2773620e9c2516665e957d51734ef55721711c2d8", checked := Try.checked }
namespace Rows
def none {H : Type} : Left H := { results := [], args := [] }

/-- 'laws.FnExactConstants': WHATEVER THE INPUT: true; the input reads as it did. -/
def fnExactConstantsSpec : ChangeSpec := { name := "fnExactConstants", fn := fun _ => fun
  | [] => { results := [.lit (.bool true)], args := [] }
  | _ => none }
def fnExactConstantsRow : OpenClaim := { program := "ytnimcmlbjbkijaa", sum := "ca8fc14079a4031150e827f2773620e9c2516665e957d51734ef55721711c2d8", func := "loop.example/g00653/laws.FnExactConstants", spec := "fnExactConstants", apart := false }
def FnExactConstantsSaid : Prop := fnExactConstantsRow.holds Try.pinned (OpenSpec.ofChange fnExactConstantsSpec)

/-- ITS FALSE NEIGHBOUR: 'it returns false'. Refute it at one input. -/
def fnExactConstantsWrong : ChangeSpec := { name := "fnExactConstants", fn := fun _ => fun
  | [] => { results := [.lit (.bool false)], args := [] }
  | _ => none }
def FnExactConstantsWrongFalsely : Prop := fnExactConstantsRow.holds Try.pinned (OpenSpec.ofChange fnExactConstantsWrong)

/-- 'laws.FnExactBegins': WHATEVER THE INPUT: true; the input reads as it did. -/
def fnExactBeginsSpec : ChangeSpec := { name := "fnExactBegins", fn := fun _ => fun
  | [d1, d2] => { results := [.lit (.bool true)], args := [d1, d2] }
  | _ => none }
def fnExactBeginsRow : OpenClaim := { program := "ytnimcmlbjbkijaa", sum := "ca8fc14079a4031150e827f2773620e9c2516665e957d51734ef55721711c2d8", func := "loop.example/g00653/laws.FnExactBegins", spec := "fnExactBegins", apart := false }
def FnExactBeginsSaid : Prop := fnExactBeginsRow.holds Try.pinned (OpenSpec.ofChange fnExactBeginsSpec)

/-- ITS FALSE NEIGHBOUR: 'it returns false'. Refute it at one input. -/
def fnExactBeginsWrong : ChangeSpec := { name := "fnExactBegins", fn := fun _ => fun
  | [d1, d2] => { results := [.lit (.bool false)], args := [d1, d2] }
  | _ => none }
def FnExactBeginsWrongFalsely : Prop := fnExactBeginsRow.holds Try.pinned (OpenSpec.ofChange fnExactBeginsWrong)

/-- 'laws.FnExactSameTerms': WHATEVER THE INPUT: true; the input reads as it did. -/
def fnExactSameTermsSpec : ChangeSpec := { name := "fnExactSameTerms", fn := fun _ => fun
  | [d1, d2] => { results := [.lit (.bool true)], args := [d1, d2] }
  | _ => none }
def fnExactSameTermsRow : OpenClaim := { program := "ytnimcmlbjbkijaa", sum := "ca8fc14079a4031150e827f2773620e9c2516665e957d51734ef55721711c2d8", func := "loop.example/g00653/laws.FnExactSameTerms", spec := "fnExactSameTerms", apart := false }
def FnExactSameTermsSaid : Prop := fnExactSameTermsRow.holds Try.pinned (OpenSpec.ofChange fnExactSameTermsSpec)

/-- ITS FALSE NEIGHBOUR: 'it returns false'. Refute it at one input. -/
def fnExactSameTermsWrong : ChangeSpec := { name := "fnExactSameTerms", fn := fun _ => fun
  | [d1, d2] => { results := [.lit (.bool false)], args := [d1, d2] }
  | _ => none }
def FnExactSameTermsWrongFalsely : Prop := fnExactSameTermsRow.holds Try.pinned (OpenSpec.ofChange fnExactSameTermsWrong)

/-- 'laws.FnExactPairAt': WHATEVER THE INPUT: true; the input reads as it did. -/
def fnExactPairAtSpec : ChangeSpec := { name := "fnExactPairAt", fn := fun _ => fun
  | [d1, d2] => { results := [.lit (.bool true)], args := [d1, d2] }
  | _ => none }
def fnExactPairAtRow : OpenClaim := { program := "ytnimcmlbjbkijaa", sum := "ca8fc14079a4031150e827f2773620e9c2516665e957d51734ef55721711c2d8", func := "loop.example/g00653/laws.FnExactPairAt", spec := "fnExactPairAt", apart := false }
def FnExactPairAtSaid : Prop := fnExactPairAtRow.holds Try.pinned (OpenSpec.ofChange fnExactPairAtSpec)

/-- ITS FALSE NEIGHBOUR: 'it returns false'. Refute it at one input. -/
def fnExactPairAtWrong : ChangeSpec := { name := "fnExactPairAt", fn := fun _ => fun
  | [d1, d2] => { results := [.lit (.bool false)], args := [d1, d2] }
  | _ => none }
def FnExactPairAtWrongFalsely : Prop := fnExactPairAtRow.holds Try.pinned (OpenSpec.ofChange fnExactPairAtWrong)

/-- 'laws.FnExactSumOf': WHATEVER THE INPUT: true; the input reads as it did. -/
def fnExactSumOfSpec : ChangeSpec := { name := "fnExactSumOf", fn := fun _ => fun
  | [d] => { results := [.lit (.bool true)], args := [d] }
  | _ => none }
def fnExactSumOfRow : OpenClaim := { program := "ytnimcmlbjbkijaa", sum := "ca8fc14079a4031150e827f2773620e9c2516665e957d51734ef55721711c2d8", func := "loop.example/g00653/laws.FnExactSumOf", spec := "fnExactSumOf", apart := false }
def FnExactSumOfSaid : Prop := fnExactSumOfRow.holds Try.pinned (OpenSpec.ofChange fnExactSumOfSpec)

/-- ITS FALSE NEIGHBOUR: 'it returns false'. Refute it at one input. -/
def fnExactSumOfWrong : ChangeSpec := { name := "fnExactSumOf", fn := fun _ => fun
  | [d] => { results := [.lit (.bool false)], args := [d] }
  | _ => none }
def FnExactSumOfWrongFalsely : Prop := fnExactSumOfRow.holds Try.pinned (OpenSpec.ofChange fnExactSumOfWrong)

/-- 'laws.FnExactCompareBytes': WHATEVER THE INPUT: true; the input reads as it did. -/
def fnExactCompareBytesSpec : ChangeSpec := { name := "fnExactCompareBytes", fn := fun _ => fun
  | [d1, d2] => { results := [.lit (.bool true)], args := [d1, d2] }
  | _ => none }
def fnExactCompareBytesRow : OpenClaim := { program := "ytnimcmlbjbkijaa", sum := "ca8fc14079a4031150e827f2773620e9c2516665e957d51734ef55721711c2d8", func := "loop.example/g00653/laws.FnExactCompareBytes", spec := "fnExactCompareBytes", inPlace := ["internal/bytealg.Compare"], apart := false }
def FnExactCompareBytesSaid : Prop := fnExactCompareBytesRow.holds Try.pinned (OpenSpec.ofChange fnExactCompareBytesSpec)

/-- ITS FALSE NEIGHBOUR: 'it returns false'. Refute it at one input. -/
def fnExactCompareBytesWrong : ChangeSpec := { name := "fnExactCompareBytes", fn := fun _ => fun
  | [d1, d2] => { results := [.lit (.bool false)], args := [d1, d2] }
  | _ => none }
def FnExactCompareBytesWrongFalsely : Prop := fnExactCompareBytesRow.holds Try.pinned (OpenSpec.ofChange fnExactCompareBytesWrong)

/-- 'laws.FnExactPairOf': WHATEVER THE INPUT: true; the input reads as it did. -/
def fnExactPairOfSpec : ChangeSpec := { name := "fnExactPairOf", fn := fun _ => fun
  | [d] => { results := [.lit (.bool true)], args := [d] }
  | _ => none }
def fnExactPairOfRow : OpenClaim := { program := "ytnimcmlbjbkijaa", sum := "ca8fc14079a4031150e827f2773620e9c2516665e957d51734ef55721711c2d8", func := "loop.example/g00653/laws.FnExactPairOf", spec := "fnExactPairOf", apart := false }
def FnExactPairOfSaid : Prop := fnExactPairOfRow.holds Try.pinned (OpenSpec.ofChange fnExactPairOfSpec)

/-- ITS FALSE NEIGHBOUR: 'it returns false'. Refute it at one input. -/
def fnExactPairOfWrong : ChangeSpec := { name := "fnExactPairOf", fn := fun _ => fun
  | [d] => { results := [.lit (.bool false)], args := [d] }
  | _ => none }
def FnExactPairOfWrongFalsely : Prop := fnExactPairOfRow.holds Try.pinned (OpenSpec.ofChange fnExactPairOfWrong)

/-- 'laws.FnExactSameSignatures': WHATEVER THE INPUT: true; the input reads as it did. -/
def fnExactSameSignaturesSpec : ChangeSpec := { name := "fnExactSameSignatures", fn := fun _ => fun
  | [d1, d2] => { results := [.lit (.bool true)], args := [d1, d2] }
  | _ => none }
def fnExactSameSignaturesRow : OpenClaim := { program := "ytnimcmlbjbkijaa", sum := "ca8fc14079a4031150e827f2773620e9c2516665e957d51734ef55721711c2d8", func := "loop.example/g00653/laws.FnExactSameSignatures", spec := "fnExactSameSignatures", apart := false }
def FnExactSameSignaturesSaid : Prop := fnExactSameSignaturesRow.holds Try.pinned (OpenSpec.ofChange fnExactSameSignaturesSpec)

/-- ITS FALSE NEIGHBOUR: 'it returns false'. Refute it at one input. -/
def fnExactSameSignaturesWrong : ChangeSpec := { name := "fnExactSameSignatures", fn := fun _ => fun
  | [d1, d2] => { results := [.lit (.bool false)], args := [d1, d2] }
  | _ => none }
def FnExactSameSignaturesWrongFalsely : Prop := fnExactSameSignaturesRow.holds Try.pinned (OpenSpec.ofChange fnExactSameSignaturesWrong)

/-- 'laws.FnBytes': WHATEVER THE INPUT: true; the input reads as it did. -/
def fnBytesSpec : ChangeSpec := { name := "fnBytes", fn := fun _ => fun
  | [d] => { results := [.lit (.bool true)], args := [d] }
  | _ => none }
def fnBytesRow : OpenClaim := { program := "ytnimcmlbjbkijaa", sum := "ca8fc14079a4031150e827f2773620e9c2516665e957d51734ef55721711c2d8", func := "loop.example/g00653/laws.FnBytes", spec := "fnBytes", inPlace := ["internal/bytealg.Compare"], apart := false }
def FnBytesSaid : Prop := fnBytesRow.holds Try.pinned (OpenSpec.ofChange fnBytesSpec)

/-- ITS FALSE NEIGHBOUR: 'it returns false'. Refute it at one input. -/
def fnBytesWrong : ChangeSpec := { name := "fnBytes", fn := fun _ => fun
  | [d] => { results := [.lit (.bool false)], args := [d] }
  | _ => none }
def FnBytesWrongFalsely : Prop := fnBytesRow.holds Try.pinned (OpenSpec.ofChange fnBytesWrong)

/-- 'laws.FnSums': WHATEVER THE INPUT: true; the input reads as it did. -/
def fnSumsSpec : ChangeSpec := { name := "fnSums", fn := fun _ => fun
  | [d] => { results := [.lit (.bool true)], args := [d] }
  | _ => none }
def fnSumsRow : OpenClaim := { program := "ytnimcmlbjbkijaa", sum := "ca8fc14079a4031150e827f2773620e9c2516665e957d51734ef55721711c2d8", func := "loop.example/g00653/laws.FnSums", spec := "fnSums", apart := false }
def FnSumsSaid : Prop := fnSumsRow.holds Try.pinned (OpenSpec.ofChange fnSumsSpec)

/-- ITS FALSE NEIGHBOUR: 'it returns false'. Refute it at one input. -/
def fnSumsWrong : ChangeSpec := { name := "fnSums", fn := fun _ => fun
  | [d] => { results := [.lit (.bool false)], args := [d] }
  | _ => none }
def FnSumsWrongFalsely : Prop := fnSumsRow.holds Try.pinned (OpenSpec.ofChange fnSumsWrong)

/-- 'laws.FnExactSameBindings': WHATEVER THE INPUT: true; the input reads as it did. -/
def fnExactSameBindingsSpec : ChangeSpec := { name := "fnExactSameBindings", fn := fun _ => fun
  | [d1, d2] => { results := [.lit (.bool true)], args := [d1, d2] }
  | _ => none }
def fnExactSameBindingsRow : OpenClaim := { program := "ytnimcmlbjbkijaa", sum := "ca8fc14079a4031150e827f2773620e9c2516665e957d51734ef55721711c2d8", func := "loop.example/g00653/laws.FnExactSameBindings", spec := "fnExactSameBindings", unfollowed := true, recurses := true, apart := false }
def FnExactSameBindingsSaid : Prop := fnExactSameBindingsRow.holds Try.pinned (OpenSpec.ofChange fnExactSameBindingsSpec)

/-- ITS FALSE NEIGHBOUR: 'it returns false'. Refute it at one input. -/
def fnExactSameBindingsWrong : ChangeSpec := { name := "fnExactSameBindings", fn := fun _ => fun
  | [d1, d2] => { results := [.lit (.bool false)], args := [d1, d2] }
  | _ => none }
def FnExactSameBindingsWrongFalsely : Prop := fnExactSameBindingsRow.holds Try.pinned (OpenSpec.ofChange fnExactSameBindingsWrong)

/-- 'laws.FnExactSameEquations': WHATEVER THE INPUT: true; the input reads as it did. -/
def fnExactSameEquationsSpec : ChangeSpec := { name := "fnExactSameEquations", fn := fun _ => fun
  | [d1, d2] => { results := [.lit (.bool true)], args := [d1, d2] }
  | _ => none }
def fnExactSameEquationsRow : OpenClaim := { program := "ytnimcmlbjbkijaa", sum := "ca8fc14079a4031150e827f2773620e9c2516665e957d51734ef55721711c2d8", func := "loop.example/g00653/laws.FnExactSameEquations", spec := "fnExactSameEquations", unfollowed := true, recurses := true, apart := false }
def FnExactSameEquationsSaid : Prop := fnExactSameEquationsRow.holds Try.pinned (OpenSpec.ofChange fnExactSameEquationsSpec)

/-- ITS FALSE NEIGHBOUR: 'it returns false'. Refute it at one input. -/
def fnExactSameEquationsWrong : ChangeSpec := { name := "fnExactSameEquations", fn := fun _ => fun
  | [d1, d2] => { results := [.lit (.bool false)], args := [d1, d2] }
  | _ => none }
def FnExactSameEquationsWrongFalsely : Prop := fnExactSameEquationsRow.holds Try.pinned (OpenSpec.ofChange fnExactSameEquationsWrong)

/- THE SECOND FORM. 'bulk': how many values and letters a reading holds, each counted each time it is reached (what is shared counts as often as it is met; a slice's spare places count too). A statement '..UptoSaid' is the law's where the arguments, and the package variables that the reading takes, are together of bulk at most 1048576: NARROWER than '..Said'. Prove '..Said' where nothing that the law and all that it calls make is longer than what came in: it says more and counts as full. Else prove '..UptoSaid'. A law counts once. -/
mutual
def uptoBulk {H : Type} : DataW H → Nat
  | .lit (.string bytes) => bytes.length + 1
  | .lit _ => 1
  | .nil => 1
  | .ptr d => uptoBulk d + 1
  | .slice elems spare => uptoBulkAll elems + uptoBulkAll spare + 1
  | .agg parts => uptoBulkAll parts + 1
  | .iface _ d => uptoBulk d + 1
  | .map entries => uptoBulkEntries entries + 1
  | .held _ => 1
def uptoBulkAll {H : Type} : List (DataW H) → Nat
  | [] => 0
  | d :: r => uptoBulk d + uptoBulkAll r
def uptoBulkEntries {H : Type} : List (Lit × DataW H) → Nat
  | [] => 0
  | x :: r => uptoBulkEntry x + uptoBulkEntries r
def uptoBulkEntry {H : Type} : Lit × DataW H → Nat
  | (.string bytes, d) => bytes.length + uptoBulk d + 1
  | (_, d) => uptoBulk d + 1
 end
def uptoSmall : (H : Type) → List (DataW H) → Bool := fun _ ds => decide (uptoBulkAll ds ≤ 1048576)
def OpenSpec.upto (s : _root_.Go.ChangeSpec) : _root_.Go.OpenSpec := { _root_.Go.OpenSpec.ofChange s with cond := some uptoSmall }

/-- 'laws.FnExactConstants', WHERE WHAT IT READS IS OF BULK AT MOST 1048576: true; the input reads as it did. -/
def fnExactConstantsUptoRow : OpenClaim := { program := "ytnimcmlbjbkijaa", sum := "ca8fc14079a4031150e827f2773620e9c2516665e957d51734ef55721711c2d8", func := "loop.example/g00653/laws.FnExactConstants", spec := "fnExactConstants", apart := false, narrowed := true }
def FnExactConstantsUptoSaid : Prop := fnExactConstantsUptoRow.holds Try.pinned (OpenSpec.upto fnExactConstantsSpec)

/-- 'laws.FnExactBegins', WHERE WHAT IT READS IS OF BULK AT MOST 1048576: true; the input reads as it did. -/
def fnExactBeginsUptoRow : OpenClaim := { program := "ytnimcmlbjbkijaa", sum := "ca8fc14079a4031150e827f2773620e9c2516665e957d51734ef55721711c2d8", func := "loop.example/g00653/laws.FnExactBegins", spec := "fnExactBegins", apart := false, narrowed := true }
def FnExactBeginsUptoSaid : Prop := fnExactBeginsUptoRow.holds Try.pinned (OpenSpec.upto fnExactBeginsSpec)

/-- 'laws.FnExactSameTerms', WHERE WHAT IT READS IS OF BULK AT MOST 1048576: true; the input reads as it did. -/
def fnExactSameTermsUptoRow : OpenClaim := { program := "ytnimcmlbjbkijaa", sum := "ca8fc14079a4031150e827f2773620e9c2516665e957d51734ef55721711c2d8", func := "loop.example/g00653/laws.FnExactSameTerms", spec := "fnExactSameTerms", apart := false, narrowed := true }
def FnExactSameTermsUptoSaid : Prop := fnExactSameTermsUptoRow.holds Try.pinned (OpenSpec.upto fnExactSameTermsSpec)

/-- 'laws.FnExactPairAt', WHERE WHAT IT READS IS OF BULK AT MOST 1048576: true; the input reads as it did. -/
def fnExactPairAtUptoRow : OpenClaim := { program := "ytnimcmlbjbkijaa", sum := "ca8fc14079a4031150e827f2773620e9c2516665e957d51734ef55721711c2d8", func := "loop.example/g00653/laws.FnExactPairAt", spec := "fnExactPairAt", apart := false, narrowed := true }
def FnExactPairAtUptoSaid : Prop := fnExactPairAtUptoRow.holds Try.pinned (OpenSpec.upto fnExactPairAtSpec)

/-- 'laws.FnExactSumOf', WHERE WHAT IT READS IS OF BULK AT MOST 1048576: true; the input reads as it did. -/
def fnExactSumOfUptoRow : OpenClaim := { program := "ytnimcmlbjbkijaa", sum := "ca8fc14079a4031150e827f2773620e9c2516665e957d51734ef55721711c2d8", func := "loop.example/g00653/laws.FnExactSumOf", spec := "fnExactSumOf", apart := false, narrowed := true }
def FnExactSumOfUptoSaid : Prop := fnExactSumOfUptoRow.holds Try.pinned (OpenSpec.upto fnExactSumOfSpec)

/-- 'laws.FnExactCompareBytes', WHERE WHAT IT READS IS OF BULK AT MOST 1048576: true; the input reads as it did. -/
def fnExactCompareBytesUptoRow : OpenClaim := { program := "ytnimcmlbjbkijaa", sum := "ca8fc14079a4031150e827f2773620e9c2516665e957d51734ef55721711c2d8", func := "loop.example/g00653/laws.FnExactCompareBytes", spec := "fnExactCompareBytes", inPlace := ["internal/bytealg.Compare"], apart := false, narrowed := true }
def FnExactCompareBytesUptoSaid : Prop := fnExactCompareBytesUptoRow.holds Try.pinned (OpenSpec.upto fnExactCompareBytesSpec)

/-- 'laws.FnExactPairOf', WHERE WHAT IT READS IS OF BULK AT MOST 1048576: true; the input reads as it did. -/
def fnExactPairOfUptoRow : OpenClaim := { program := "ytnimcmlbjbkijaa", sum := "ca8fc14079a4031150e827f2773620e9c2516665e957d51734ef55721711c2d8", func := "loop.example/g00653/laws.FnExactPairOf", spec := "fnExactPairOf", apart := false, narrowed := true }
def FnExactPairOfUptoSaid : Prop := fnExactPairOfUptoRow.holds Try.pinned (OpenSpec.upto fnExactPairOfSpec)

/-- 'laws.FnExactSameSignatures', WHERE WHAT IT READS IS OF BULK AT MOST 1048576: true; the input reads as it did. -/
def fnExactSameSignaturesUptoRow : OpenClaim := { program := "ytnimcmlbjbkijaa", sum := "ca8fc14079a4031150e827f2773620e9c2516665e957d51734ef55721711c2d8", func := "loop.example/g00653/laws.FnExactSameSignatures", spec := "fnExactSameSignatures", apart := false, narrowed := true }
def FnExactSameSignaturesUptoSaid : Prop := fnExactSameSignaturesUptoRow.holds Try.pinned (OpenSpec.upto fnExactSameSignaturesSpec)

/-- 'laws.FnBytes', WHERE WHAT IT READS IS OF BULK AT MOST 1048576: true; the input reads as it did. -/
def fnBytesUptoRow : OpenClaim := { program := "ytnimcmlbjbkijaa", sum := "ca8fc14079a4031150e827f2773620e9c2516665e957d51734ef55721711c2d8", func := "loop.example/g00653/laws.FnBytes", spec := "fnBytes", inPlace := ["internal/bytealg.Compare"], apart := false, narrowed := true }
def FnBytesUptoSaid : Prop := fnBytesUptoRow.holds Try.pinned (OpenSpec.upto fnBytesSpec)

/-- 'laws.FnSums', WHERE WHAT IT READS IS OF BULK AT MOST 1048576: true; the input reads as it did. -/
def fnSumsUptoRow : OpenClaim := { program := "ytnimcmlbjbkijaa", sum := "ca8fc14079a4031150e827f2773620e9c2516665e957d51734ef55721711c2d8", func := "loop.example/g00653/laws.FnSums", spec := "fnSums", apart := false, narrowed := true }
def FnSumsUptoSaid : Prop := fnSumsUptoRow.holds Try.pinned (OpenSpec.upto fnSumsSpec)

/-- 'laws.FnExactSameBindings', WHERE WHAT IT READS IS OF BULK AT MOST 1048576: true; the input reads as it did. -/
def fnExactSameBindingsUptoRow : OpenClaim := { program := "ytnimcmlbjbkijaa", sum := "ca8fc14079a4031150e827f2773620e9c2516665e957d51734ef55721711c2d8", func := "loop.example/g00653/laws.FnExactSameBindings", spec := "fnExactSameBindings", unfollowed := true, recurses := true, apart := false, narrowed := true }
def FnExactSameBindingsUptoSaid : Prop := fnExactSameBindingsUptoRow.holds Try.pinned (OpenSpec.upto fnExactSameBindingsSpec)

/-- 'laws.FnExactSameEquations', WHERE WHAT IT READS IS OF BULK AT MOST 1048576: true; the input reads as it did. -/
def fnExactSameEquationsUptoRow : OpenClaim := { program := "ytnimcmlbjbkijaa", sum := "ca8fc14079a4031150e827f2773620e9c2516665e957d51734ef55721711c2d8", func := "loop.example/g00653/laws.FnExactSameEquations", spec := "fnExactSameEquations", unfollowed := true, recurses := true, apart := false, narrowed := true }
def FnExactSameEquationsUptoSaid : Prop := fnExactSameEquationsUptoRow.holds Try.pinned (OpenSpec.upto fnExactSameEquationsSpec)

end Rows
end Go.Proofs.Ytnimcmlbjbkijaa

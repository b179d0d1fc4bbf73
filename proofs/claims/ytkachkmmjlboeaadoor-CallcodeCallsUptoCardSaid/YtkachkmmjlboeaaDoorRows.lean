/-
  NARROWER THAN 'FOR EVERY INPUT', by the rows' own cells (each row's printed sentence says how): CallcodeNums: laid · CallcodeCalls: laid · CallcodeReplies: laid · CallcodeBack: laid · CallcodeAgain: laid.
  DERIVED. THE GIVEN ROWS OF THIS SEAT. 5 by the template 'for every input the law returns true; each argument reads behind the call as it read before'; 0 by the template 'total and deterministic' (their statements: YtkachkmmjlboeaaDoorTotals.lean).
  GIVEN WITH THE SEED: the statements are not yours to turn. If you find one false, say at which input.
  Laid BY PROGRAM, IN A SANDBOX (cutbox-rows.mjs): the forced cells as the released guide's own fill.sh prints them over the translation 8f7972245f28955c… (all of the seat's roots in one cut). By AI agents, Wed Nov 11 2026. No macro, syntax, notation, axiom, sorry.
-/
import Derived.Test.YtkachkmmjlboeaaDoorChecked
import GoSem.PinnedTables
import GoSem.Claim
import GoSem.ClaimJoined
import GoSem.ClaimMapViews
import Derived.JoinedTies
import Derived.KernelRfl
namespace Go.Proofs.YtkachkmmjlboeaaDoor
/- THE CELL 'sum', in the pinned program and in every row, IS THE sha256 OF THE DUMP (.gsa) THAT YtkachkmmjlboeaaDoorProg.lean LOADS. Nothing in Lean hashes anything: it is a label: what it is worth is what the hold of that sum in a sandbox is worth. -/
noncomputable def Tryd.pinned : Pinned := { name := "ytkachkmmjlboeaadoor", sum := "8f7972245f28955cb45852b671c54e7e97ab72f0f55876de02e67fabcea90166", checked := Tryd.checked }
namespace Rows
def none {H : Type} : Left H := { results := [], args := [] }

/- WHAT THE LISTED PACKAGE-LEVEL VARIABLES READ AS WHEN THE CALL BEGINS. Each datum BY PROGRAM (the guide's laid-datum.mjs) off the statement by which the dump's own 'gosem.cut.vars' lays the variable. In a bare row this is a premise. The card (YtkachkmmjlboeaaDoorCards.lean) ties it to the program's text. -/
def laid_unicode_utf8_acceptRanges {H : Type} : DataW H := .agg [.agg [.lit (.int .u8 128), .lit (.int .u8 191)], .agg [.lit (.int .u8 160), .lit (.int .u8 191)], .agg [.lit (.int .u8 128), .lit (.int .u8 159)], .agg [.lit (.int .u8 144), .lit (.int .u8 191)], .agg [.lit (.int .u8 128), .lit (.int .u8 143)], .agg [.lit (.int .u8 0), .lit (.int .u8 0)], .agg [.lit (.int .u8 0), .lit (.int .u8 0)], .agg [.lit (.int .u8 0), .lit (.int .u8 0)], .agg [.lit (.int .u8 0), .lit (.int .u8 0)], .agg [.lit (.int .u8 0), .lit (.int .u8 0)], .agg [.lit (.int .u8 0), .lit (.int .u8 0)], .agg [.lit (.int .u8 0), .lit (.int .u8 0)], .agg [.lit (.int .u8 0), .lit (.int .u8 0)], .agg [.lit (.int .u8 0), .lit (.int .u8 0)], .agg [.lit (.int .u8 0), .lit (.int .u8 0)], .agg [.lit (.int .u8 0), .lit (.int .u8 0)]]
/-- One of Go's own tables, pinned by name: the form's constant. -/
def laid_unicode_utf8_first : DataW Unit := Go.Pinned.utf8First

/-- 'assartlaw30.CallcodeNums': WHATEVER THE INPUT: true; the input reads as it did. -/
def callcodeNumsSpec : ChangeSpec := { name := "callcodeNums", fn := fun _ => fun
  | [d1, d2] => { results := [.lit (.bool true)], args := [d1, d2] }
  | _ => none }
def callcodeNumsRow : OpenClaim := { program := "ytkachkmmjlboeaadoor", sum := "8f7972245f28955cb45852b671c54e7e97ab72f0f55876de02e67fabcea90166", func := "assart/assartlaw30.CallcodeNums", spec := "callcodeNums", inPlace := ["internal/bytealg.CountString", "internal/bytealg.IndexByteString", "internal/bytealg.IndexString", "internal/abi.NoEscape", "internal/bytealg.MakeNoZero"], named := ["unicode/utf8.first", "unicode/utf8.acceptRanges", "internal/bytealg.MaxLen"], apart := false, laid := [("unicode/utf8.acceptRanges", laid_unicode_utf8_acceptRanges), ("unicode/utf8.first", laid_unicode_utf8_first)] }
def CallcodeNumsSaid : Prop := callcodeNumsRow.holds Tryd.pinned (OpenSpec.ofChange callcodeNumsSpec)

/-- ITS FALSE NEIGHBOUR: 'it returns false'. Refute it at one input. -/
def callcodeNumsWrong : ChangeSpec := { name := "callcodeNums", fn := fun _ => fun
  | [d1, d2] => { results := [.lit (.bool false)], args := [d1, d2] }
  | _ => none }
def CallcodeNumsWrongFalsely : Prop := callcodeNumsRow.holds Tryd.pinned (OpenSpec.ofChange callcodeNumsWrong)

/-- 'assartlaw30.CallcodeCalls': WHATEVER THE INPUT: true; the input reads as it did. -/
def callcodeCallsSpec : ChangeSpec := { name := "callcodeCalls", fn := fun _ => fun
  | [d1, d2] => { results := [.lit (.bool true)], args := [d1, d2] }
  | _ => none }
def callcodeCallsRow : OpenClaim := { program := "ytkachkmmjlboeaadoor", sum := "8f7972245f28955cb45852b671c54e7e97ab72f0f55876de02e67fabcea90166", func := "assart/assartlaw30.CallcodeCalls", spec := "callcodeCalls", inPlace := ["internal/abi.NoEscape", "internal/bytealg.MakeNoZero", "internal/bytealg.CountString", "internal/bytealg.IndexByteString", "internal/bytealg.IndexString"], named := ["unicode/utf8.first", "unicode/utf8.acceptRanges", "internal/bytealg.MaxLen"], apart := false, laid := [("unicode/utf8.acceptRanges", laid_unicode_utf8_acceptRanges), ("unicode/utf8.first", laid_unicode_utf8_first)] }
def CallcodeCallsSaid : Prop := callcodeCallsRow.holds Tryd.pinned (OpenSpec.ofChange callcodeCallsSpec)

/-- ITS FALSE NEIGHBOUR: 'it returns false'. Refute it at one input. -/
def callcodeCallsWrong : ChangeSpec := { name := "callcodeCalls", fn := fun _ => fun
  | [d1, d2] => { results := [.lit (.bool false)], args := [d1, d2] }
  | _ => none }
def CallcodeCallsWrongFalsely : Prop := callcodeCallsRow.holds Tryd.pinned (OpenSpec.ofChange callcodeCallsWrong)

/-- 'assartlaw30.CallcodeReplies': WHATEVER THE INPUT: true; the input reads as it did. -/
def callcodeRepliesSpec : ChangeSpec := { name := "callcodeReplies", fn := fun _ => fun
  | [d] => { results := [.lit (.bool true)], args := [d] }
  | _ => none }
def callcodeRepliesRow : OpenClaim := { program := "ytkachkmmjlboeaadoor", sum := "8f7972245f28955cb45852b671c54e7e97ab72f0f55876de02e67fabcea90166", func := "assart/assartlaw30.CallcodeReplies", spec := "callcodeReplies", inPlace := ["internal/abi.NoEscape", "internal/bytealg.MakeNoZero", "internal/bytealg.CountString", "internal/bytealg.IndexByteString", "internal/bytealg.IndexString"], named := ["unicode/utf8.first", "unicode/utf8.acceptRanges", "internal/bytealg.MaxLen"], apart := false, laid := [("unicode/utf8.acceptRanges", laid_unicode_utf8_acceptRanges), ("unicode/utf8.first", laid_unicode_utf8_first)] }
def CallcodeRepliesSaid : Prop := callcodeRepliesRow.holds Tryd.pinned (OpenSpec.ofChange callcodeRepliesSpec)

/-- ITS FALSE NEIGHBOUR: 'it returns false'. Refute it at one input. -/
def callcodeRepliesWrong : ChangeSpec := { name := "callcodeReplies", fn := fun _ => fun
  | [d] => { results := [.lit (.bool false)], args := [d] }
  | _ => none }
def CallcodeRepliesWrongFalsely : Prop := callcodeRepliesRow.holds Tryd.pinned (OpenSpec.ofChange callcodeRepliesWrong)

/-- 'assartlaw30.CallcodeBack': WHATEVER THE INPUT: true; the input reads as it did. -/
def callcodeBackSpec : ChangeSpec := { name := "callcodeBack", fn := fun _ => fun
  | [d1, d2] => { results := [.lit (.bool true)], args := [d1, d2] }
  | _ => none }
def callcodeBackRow : OpenClaim := { program := "ytkachkmmjlboeaadoor", sum := "8f7972245f28955cb45852b671c54e7e97ab72f0f55876de02e67fabcea90166", func := "assart/assartlaw30.CallcodeBack", spec := "callcodeBack", inPlace := ["internal/abi.NoEscape", "internal/bytealg.MakeNoZero", "internal/bytealg.CountString", "internal/bytealg.IndexByteString", "internal/bytealg.IndexString"], named := ["unicode/utf8.first", "unicode/utf8.acceptRanges", "internal/bytealg.MaxLen"], apart := false, laid := [("unicode/utf8.acceptRanges", laid_unicode_utf8_acceptRanges), ("unicode/utf8.first", laid_unicode_utf8_first)] }
def CallcodeBackSaid : Prop := callcodeBackRow.holds Tryd.pinned (OpenSpec.ofChange callcodeBackSpec)

/-- ITS FALSE NEIGHBOUR: 'it returns false'. Refute it at one input. -/
def callcodeBackWrong : ChangeSpec := { name := "callcodeBack", fn := fun _ => fun
  | [d1, d2] => { results := [.lit (.bool false)], args := [d1, d2] }
  | _ => none }
def CallcodeBackWrongFalsely : Prop := callcodeBackRow.holds Tryd.pinned (OpenSpec.ofChange callcodeBackWrong)

/-- 'assartlaw30.CallcodeAgain': WHATEVER THE INPUT: true; the input reads as it did. -/
def callcodeAgainSpec : ChangeSpec := { name := "callcodeAgain", fn := fun _ => fun
  | [d1, d2] => { results := [.lit (.bool true)], args := [d1, d2] }
  | _ => none }
def callcodeAgainRow : OpenClaim := { program := "ytkachkmmjlboeaadoor", sum := "8f7972245f28955cb45852b671c54e7e97ab72f0f55876de02e67fabcea90166", func := "assart/assartlaw30.CallcodeAgain", spec := "callcodeAgain", inPlace := ["internal/abi.NoEscape", "internal/bytealg.MakeNoZero", "internal/bytealg.CountString", "internal/bytealg.IndexByteString", "internal/bytealg.IndexString"], named := ["unicode/utf8.first", "unicode/utf8.acceptRanges", "internal/bytealg.MaxLen"], apart := false, laid := [("unicode/utf8.acceptRanges", laid_unicode_utf8_acceptRanges), ("unicode/utf8.first", laid_unicode_utf8_first)] }
def CallcodeAgainSaid : Prop := callcodeAgainRow.holds Tryd.pinned (OpenSpec.ofChange callcodeAgainSpec)

/-- ITS FALSE NEIGHBOUR: 'it returns false'. Refute it at one input. -/
def callcodeAgainWrong : ChangeSpec := { name := "callcodeAgain", fn := fun _ => fun
  | [d1, d2] => { results := [.lit (.bool false)], args := [d1, d2] }
  | _ => none }
def CallcodeAgainWrongFalsely : Prop := callcodeAgainRow.holds Tryd.pinned (OpenSpec.ofChange callcodeAgainWrong)

/- THE SECOND FORM. 'bulk': how many values and letters a reading holds, each counted each time it is reached (what is shared counts as often as it is met; a slice's spare places count too). A statement '..UptoSaid' is the law's where the arguments, and the package variables that the reading takes, are together of bulk at most 1048576: NARROWER than '..Said'. Prove '..Said' where nothing that the law and all that it calls make is longer than what came in: it says more and counts as full. Else prove '..UptoSaid'. A law counts once. -/
mutual
def uptoBulk {H : Type} : DataW H → Nat
  | .lit (.string bytes) => bytes.length + 1
  | .lit _ => 1
  | .nil => 1
  | .ptr d => uptoBulk d + 1
  | .slice elems spare => uptoBulkAll elems + uptoBulkAll spare + 1
  | .agg parts => uptoBulkAll parts + 1
  | .iface _ d => uptoBulk d + 1
  | .map entries => uptoBulkEntries entries + 1
  | .held _ => 1
def uptoBulkAll {H : Type} : List (DataW H) → Nat
  | [] => 0
  | d :: r => uptoBulk d + uptoBulkAll r
def uptoBulkEntries {H : Type} : List (Lit × DataW H) → Nat
  | [] => 0
  | x :: r => uptoBulkEntry x + uptoBulkEntries r
def uptoBulkEntry {H : Type} : Lit × DataW H → Nat
  | (.string bytes, d) => bytes.length + uptoBulk d + 1
  | (_, d) => uptoBulk d + 1
 end
def uptoSmall : (H : Type) → List (DataW H) → Bool := fun _ ds => decide (uptoBulkAll ds ≤ 1048576)
def OpenSpec.upto (s : _root_.Go.ChangeSpec) : _root_.Go.OpenSpec := { _root_.Go.OpenSpec.ofChange s with cond := some uptoSmall }

/-- 'assartlaw30.CallcodeNums', WHERE WHAT IT READS IS OF BULK AT MOST 1048576: true; the input reads as it did. -/
def callcodeNumsUptoRow : OpenClaim := { program := "ytkachkmmjlboeaadoor", sum := "8f7972245f28955cb45852b671c54e7e97ab72f0f55876de02e67fabcea90166", func := "assart/assartlaw30.CallcodeNums", spec := "callcodeNums", inPlace := ["internal/bytealg.CountString", "internal/bytealg.IndexByteString", "internal/bytealg.IndexString", "internal/abi.NoEscape", "internal/bytealg.MakeNoZero"], named := ["unicode/utf8.first", "unicode/utf8.acceptRanges", "internal/bytealg.MaxLen"], apart := false, laid := [("unicode/utf8.acceptRanges", laid_unicode_utf8_acceptRanges), ("unicode/utf8.first", laid_unicode_utf8_first)], narrowed := true }
def CallcodeNumsUptoSaid : Prop := callcodeNumsUptoRow.holds Tryd.pinned (OpenSpec.upto callcodeNumsSpec)

/-- 'assartlaw30.CallcodeCalls', WHERE WHAT IT READS IS OF BULK AT MOST 1048576: true; the input reads as it did. -/
def callcodeCallsUptoRow : OpenClaim := { program := "ytkachkmmjlboeaadoor", sum := "8f7972245f28955cb45852b671c54e7e97ab72f0f55876de02e67fabcea90166", func := "assart/assartlaw30.CallcodeCalls", spec := "callcodeCalls", inPlace := ["internal/abi.NoEscape", "internal/bytealg.MakeNoZero", "internal/bytealg.CountString", "internal/bytealg.IndexByteString", "internal/bytealg.IndexString"], named := ["unicode/utf8.first", "unicode/utf8.acceptRanges", "internal/bytealg.MaxLen"], apart := false, laid := [("unicode/utf8.acceptRanges", laid_unicode_utf8_acceptRanges), ("unicode/utf8.first", laid_unicode_utf8_first)], narrowed := true }
def CallcodeCallsUptoSaid : Prop := callcodeCallsUptoRow.holds Tryd.pinned (OpenSpec.upto callcodeCallsSpec)

/-- 'assartlaw30.CallcodeReplies', WHERE WHAT IT READS IS OF BULK AT MOST 1048576: true; the input reads as it did. -/
def callcodeRepliesUptoRow : OpenClaim := { program := "ytkachkmmjlboeaadoor", sum := "8f7972245f28955cb45852b671c54e7e97ab72f0f55876de02e67fabcea90166", func := "assart/assartlaw30.CallcodeReplies", spec := "callcodeReplies", inPlace := ["internal/abi.NoEscape", "internal/bytealg.MakeNoZero", "internal/bytealg.CountString", "internal/bytealg.IndexByteString", "internal/bytealg.IndexString"], named := ["unicode/utf8.first", "unicode/utf8.acceptRanges", "internal/bytealg.MaxLen"], apart := false, laid := [("unicode/utf8.acceptRanges", laid_unicode_utf8_acceptRanges), ("unicode/utf8.first", laid_unicode_utf8_first)], narrowed := true }
def CallcodeRepliesUptoSaid : Prop := callcodeRepliesUptoRow.holds Tryd.pinned (OpenSpec.upto callcodeRepliesSpec)

/-- 'assartlaw30.CallcodeBack', WHERE WHAT IT READS IS OF BULK AT MOST 1048576: true; the input reads as it did. -/
def callcodeBackUptoRow : OpenClaim := { program := "ytkachkmmjlboeaadoor", sum := "8f7972245f28955cb45852b671c54e7e97ab72f0f55876de02e67fabcea90166", func := "assart/assartlaw30.CallcodeBack", spec := "callcodeBack", inPlace := ["internal/abi.NoEscape", "internal/bytealg.MakeNoZero", "internal/bytealg.CountString", "internal/bytealg.IndexByteString", "internal/bytealg.IndexString"], named := ["unicode/utf8.first", "unicode/utf8.acceptRanges", "internal/bytealg.MaxLen"], apart := false, laid := [("unicode/utf8.acceptRanges", laid_unicode_utf8_acceptRanges), ("unicode/utf8.first", laid_unicode_utf8_first)], narrowed := true }
def CallcodeBackUptoSaid : Prop := callcodeBackUptoRow.holds Tryd.pinned (OpenSpec.upto callcodeBackSpec)

/-- 'assartlaw30.CallcodeAgain', WHERE WHAT IT READS IS OF BULK AT MOST 1048576: true; the input reads as it did. -/
def callcodeAgainUptoRow : OpenClaim := { program := "ytkachkmmjlboeaadoor", sum := "8f7972245f28955cb45852b671c54e7e97ab72f0f55876de02e67fabcea90166", func := "assart/assartlaw30.CallcodeAgain", spec := "callcodeAgain", inPlace := ["internal/abi.NoEscape", "internal/bytealg.MakeNoZero", "internal/bytealg.CountString", "internal/bytealg.IndexByteString", "internal/bytealg.IndexString"], named := ["unicode/utf8.first", "unicode/utf8.acceptRanges", "internal/bytealg.MaxLen"], apart := false, laid := [("unicode/utf8.acceptRanges", laid_unicode_utf8_acceptRanges), ("unicode/utf8.first", laid_unicode_utf8_first)], narrowed := true }
def CallcodeAgainUptoSaid : Prop := callcodeAgainUptoRow.holds Tryd.pinned (OpenSpec.upto callcodeAgainSpec)

end Rows
end Go.Proofs.YtkachkmmjlboeaaDoor

/-
  No cell of these rows narrows 'for every input' (looked for: loops, veiled, ifaces, maps, wideKeys, modest, calm, conditions, laid).
  DERIVED. THE GIVEN ROWS OF THIS SEAT. 4 by the template 'for every input the law returns true; each argument reads behind the call as it read before'; 0 by the template 'total and deterministic' (their statements: YtaldgcpgnmdjbaaTotals.lean).
  GIVEN WITH THE SEED: the statements are not yours to turn. If you find one false, say at which input.
  Laid BY PROGRAM, IN A SANDBOX (cutbox-rows.mjs): the forced cells as the released guide's own fill.sh prints them over the translation 33d7221390980a3c… (all of the seat's roots in one cut). By AI agents, Wed Nov 11 2026. No macro, syntax, notation, axiom, sorry.
-/
import Derived.Test.YtaldgcpgnmdjbaaChecked
import GoSem.Claim
import GoSem.ClaimJoined
import GoSem.ClaimMapViews
import Derived.JoinedTies
import Derived.KernelRfl
namespace Go.Proofs.Ytaldgcpgnmdjbaa
/- THE CELL 'sum', in the pinned program and in every row, IS THE sha256 OF THE DUMP (.gsa) THAT YtaldgcpgnmdjbaaProg.lean LOADS. Nothing in Lean hashes anything: it is a label: what it is worth is what the hold of that sum in a sandbox is worth. -/
noncomputable def Try.pinned : Pinned := { name := "ytaldgcpgnmdjbaa", sum := "33d7221390980a3cac22cf67351e381d43dc58f96a4455a32fbf3080b05b2b64", checked := Try.checked }
namespace Rows
def none {H : Type} : Left H := { results := [], args := [] }

/-- 'assartlaw05.VlockWords': WHATEVER THE INPUT: true; the input reads as it did. -/
def vlockWordsSpec : ChangeSpec := { name := "vlockWords", fn := fun _ => fun
  | [d1, d2] => { results := [.lit (.bool true)], args := [d1, d2] }
  | _ => none }
def vlockWordsRow : OpenClaim := { program := "ytaldgcpgnmdjbaa", sum := "33d7221390980a3cac22cf67351e381d43dc58f96a4455a32fbf3080b05b2b64", func := "assart/assartlaw05.VlockWords", spec := "vlockWords", apart := false }
def VlockWordsSaid : Prop := vlockWordsRow.holds Try.pinned (OpenSpec.ofChange vlockWordsSpec)

/-- ITS FALSE NEIGHBOUR: 'it returns false'. Refute it at one input. -/
def vlockWordsWrong : ChangeSpec := { name := "vlockWords", fn := fun _ => fun
  | [d1, d2] => { results := [.lit (.bool false)], args := [d1, d2] }
  | _ => none }
def VlockWordsWrongFalsely : Prop := vlockWordsRow.holds Try.pinned (OpenSpec.ofChange vlockWordsWrong)

/-- 'assartlaw05.VlockReads': WHATEVER THE INPUT: true; the input reads as it did. -/
def vlockReadsSpec : ChangeSpec := { name := "vlockReads", fn := fun _ => fun
  | [d1, d2] => { results := [.lit (.bool true)], args := [d1, d2] }
  | _ => none }
def vlockReadsRow : OpenClaim := { program := "ytaldgcpgnmdjbaa", sum := "33d7221390980a3cac22cf67351e381d43dc58f96a4455a32fbf3080b05b2b64", func := "assart/assartlaw05.VlockReads", spec := "vlockReads", apart := false }
def VlockReadsSaid : Prop := vlockReadsRow.holds Try.pinned (OpenSpec.ofChange vlockReadsSpec)

/-- ITS FALSE NEIGHBOUR: 'it returns false'. Refute it at one input. -/
def vlockReadsWrong : ChangeSpec := { name := "vlockReads", fn := fun _ => fun
  | [d1, d2] => { results := [.lit (.bool false)], args := [d1, d2] }
  | _ => none }
def VlockReadsWrongFalsely : Prop := vlockReadsRow.holds Try.pinned (OpenSpec.ofChange vlockReadsWrong)

/-- 'assartlaw05.VlockBack': WHATEVER THE INPUT: true; the input reads as it did. -/
def vlockBackSpec : ChangeSpec := { name := "vlockBack", fn := fun _ => fun
  | [d1, d2] => { results := [.lit (.bool true)], args := [d1, d2] }
  | _ => none }
def vlockBackRow : OpenClaim := { program := "ytaldgcpgnmdjbaa", sum := "33d7221390980a3cac22cf67351e381d43dc58f96a4455a32fbf3080b05b2b64", func := "assart/assartlaw05.VlockBack", spec := "vlockBack", apart := false }
def VlockBackSaid : Prop := vlockBackRow.holds Try.pinned (OpenSpec.ofChange vlockBackSpec)

/-- ITS FALSE NEIGHBOUR: 'it returns false'. Refute it at one input. -/
def vlockBackWrong : ChangeSpec := { name := "vlockBack", fn := fun _ => fun
  | [d1, d2] => { results := [.lit (.bool false)], args := [d1, d2] }
  | _ => none }
def VlockBackWrongFalsely : Prop := vlockBackRow.holds Try.pinned (OpenSpec.ofChange vlockBackWrong)

/-- 'assartlaw05.VlockRising': WHATEVER THE INPUT: true; the input reads as it did. -/
def vlockRisingSpec : ChangeSpec := { name := "vlockRising", fn := fun _ => fun
  | [d1, d2, d3, d4, d5] => { results := [.lit (.bool true)], args := [d1, d2, d3, d4, d5] }
  | _ => none }
def vlockRisingRow : OpenClaim := { program := "ytaldgcpgnmdjbaa", sum := "33d7221390980a3cac22cf67351e381d43dc58f96a4455a32fbf3080b05b2b64", func := "assart/assartlaw05.VlockRising", spec := "vlockRising", apart := false }
def VlockRisingSaid : Prop := vlockRisingRow.holds Try.pinned (OpenSpec.ofChange vlockRisingSpec)

/-- ITS FALSE NEIGHBOUR: 'it returns false'. Refute it at one input. -/
def vlockRisingWrong : ChangeSpec := { name := "vlockRising", fn := fun _ => fun
  | [d1, d2, d3, d4, d5] => { results := [.lit (.bool false)], args := [d1, d2, d3, d4, d5] }
  | _ => none }
def VlockRisingWrongFalsely : Prop := vlockRisingRow.holds Try.pinned (OpenSpec.ofChange vlockRisingWrong)

/- THE SECOND FORM. 'bulk': how many values and letters a reading holds, each counted each time it is reached (what is shared counts as often as it is met; a slice's spare places count too). A statement '..UptoSaid' is the law's where the arguments, and the package variables that the reading takes, are together of bulk at most 1048576: NARROWER than '..Said'. Prove '..Said' where nothing that the law and all that it calls make is longer than what came in: it says more and counts as full. Else prove '..UptoSaid'. A law counts once. -/
mutual
def uptoBulk {H : Type} : DataW H → Nat
  | .lit (.string bytes) => bytes.length + 1
  | .lit _ => 1
  | .nil => 1
  | .ptr d => uptoBulk d + 1
  | .slice elems spare => uptoBulkAll elems + uptoBulkAll spare + 1
  | .agg parts => uptoBulkAll parts + 1
  | .iface _ d => uptoBulk d + 1
  | .map entries => uptoBulkEntries entries + 1
  | .held _ => 1
def uptoBulkAll {H : Type} : List (DataW H) → Nat
  | [] => 0
  | d :: r => uptoBulk d + uptoBulkAll r
def uptoBulkEntries {H : Type} : List (Lit × DataW H) → Nat
  | [] => 0
  | x :: r => uptoBulkEntry x + uptoBulkEntries r
def uptoBulkEntry {H : Type} : Lit × DataW H → Nat
  | (.string bytes, d) => bytes.length + uptoBulk d + 1
  | (_, d) => uptoBulk d + 1
 end
def uptoSmall : (H : Type) → List (DataW H) → Bool := fun _ ds => decide (uptoBulkAll ds ≤ 1048576)
def OpenSpec.upto (s : _root_.Go.ChangeSpec) : _root_.Go.OpenSpec := { _root_.Go.OpenSpec.ofChange s with cond := some uptoSmall }

/-- 'assartlaw05.VlockWords', WHERE WHAT IT READS IS OF BULK AT MOST 1048576: true; the input reads as it did. -/
def vlockWordsUptoRow : OpenClaim := { program := "ytaldgcpgnmdjbaa", sum := "33d7221390980a3cac22cf67351e381d43dc58f96a4455a32fbf3080b05b2b64", func := "assart/assartlaw05.VlockWords", spec := "vlockWords", apart := false, narrowed := true }
def VlockWordsUptoSaid : Prop := vlockWordsUptoRow.holds Try.pinned (OpenSpec.upto vlockWordsSpec)

/-- 'assartlaw05.VlockReads', WHERE WHAT IT READS IS OF BULK AT MOST 1048576: true; the input reads as it did. -/
def vlockReadsUptoRow : OpenClaim := { program := "ytaldgcpgnmdjbaa", sum := "33d7221390980a3cac22cf67351e381d43dc58f96a4455a32fbf3080b05b2b64", func := "assart/assartlaw05.VlockReads", spec := "vlockReads", apart := false, narrowed := true }
def VlockReadsUptoSaid : Prop := vlockReadsUptoRow.holds Try.pinned (OpenSpec.upto vlockReadsSpec)

/-- 'assartlaw05.VlockBack', WHERE WHAT IT READS IS OF BULK AT MOST 1048576: true; the input reads as it did. -/
def vlockBackUptoRow : OpenClaim := { program := "ytaldgcpgnmdjbaa", sum := "33d7221390980a3cac22cf67351e381d43dc58f96a4455a32fbf3080b05b2b64", func := "assart/assartlaw05.VlockBack", spec := "vlockBack", apart := false, narrowed := true }
def VlockBackUptoSaid : Prop := vlockBackUptoRow.holds Try.pinned (OpenSpec.upto vlockBackSpec)

/-- 'assartlaw05.VlockRising', WHERE WHAT IT READS IS OF BULK AT MOST 1048576: true; the input reads as it did. -/
def vlockRisingUptoRow : OpenClaim := { program := "ytaldgcpgnmdjbaa", sum := "33d7221390980a3cac22cf67351e381d43dc58f96a4455a32fbf3080b05b2b64", func := "assart/assartlaw05.VlockRising", spec := "vlockRising", apart := false, narrowed := true }
def VlockRisingUptoSaid : Prop := vlockRisingUptoRow.holds Try.pinned (OpenSpec.upto vlockRisingSpec)

end Rows
end Go.Proofs.Ytaldgcpgnmdjbaa

/-
  No cell of these rows narrows 'for every input' (looked for: loops, veiled, ifaces, maps, wideKeys, modest, calm, conditions, laid).
  DERIVED. THE GIVEN ROWS OF THIS SEAT. 3 by the template 'for every input the law returns true; each argument reads behind the call as it read before'; 0 by the template 'total and deterministic' (their statements: YtlockojfinmddaaTotals.lean).
  GIVEN WITH THE SEED: the statements are not yours to turn. If you find one false, say at which input.
  Laid BY PROGRAM, IN A SANDBOX (cutbox-rows.mjs): the forced cells as the released guide's own fill.sh prints them over the translation c2ba9d145c8f3baa… (all of the seat's roots in one cut). By AI agents, Wed Nov 11 2026. No macro, syntax, notation, axiom, sorry.
-/
import Derived.Test.YtlockojfinmddaaChecked
import GoSem.Claim
import GoSem.ClaimJoined
import GoSem.ClaimMapViews
import Derived.JoinedTies
import Derived.KernelRfl
namespace Go.Proofs.Ytlockojfinmddaa
/- THE CELL 'sum', in the pinned program and in every row, IS THE sha256 OF THE DUMP (.gsa) THAT YtlockojfinmddaaProg.lean LOADS. Nothing in Lean hashes anything: it is a label: what it is worth is what the hold of that sum in a sandbox is worth. -/
noncomputable def Try.pinned : Pinned := { name := "ytlockojfinmddaa", sum := "c2ba9d145c8f3baae1a1abe8d44912b290b003fdf4f71bc0576b785a0e1555a8", checked := Try.checked }
namespace Rows
def none {H : Type} : Left H := { results := [], args := [] }

/-- 'assartlaw37.ShrinkScripts': WHATEVER THE INPUT: true; the input reads as it did. -/
def shrinkScriptsSpec : ChangeSpec := { name := "shrinkScripts", fn := fun _ => fun
  | [d1, d2, d3, d4] => { results := [.lit (.bool true)], args := [d1, d2, d3, d4] }
  | _ => none }
def shrinkScriptsRow : OpenClaim := { program := "ytlockojfinmddaa", sum := "c2ba9d145c8f3baae1a1abe8d44912b290b003fdf4f71bc0576b785a0e1555a8", func := "assart/assartlaw37.ShrinkScripts", spec := "shrinkScripts", unfollowed := true, recurses := true, apart := false }
def ShrinkScriptsSaid : Prop := shrinkScriptsRow.holds Try.pinned (OpenSpec.ofChange shrinkScriptsSpec)

/-- ITS FALSE NEIGHBOUR: 'it returns false'. Refute it at one input. -/
def shrinkScriptsWrong : ChangeSpec := { name := "shrinkScripts", fn := fun _ => fun
  | [d1, d2, d3, d4] => { results := [.lit (.bool false)], args := [d1, d2, d3, d4] }
  | _ => none }
def ShrinkScriptsWrongFalsely : Prop := shrinkScriptsRow.holds Try.pinned (OpenSpec.ofChange shrinkScriptsWrong)

/-- 'assartlaw37.ShrinkLeasts': WHATEVER THE INPUT: true; the input reads as it did. -/
def shrinkLeastsSpec : ChangeSpec := { name := "shrinkLeasts", fn := fun _ => fun
  | [d1, d2] => { results := [.lit (.bool true)], args := [d1, d2] }
  | _ => none }
def shrinkLeastsRow : OpenClaim := { program := "ytlockojfinmddaa", sum := "c2ba9d145c8f3baae1a1abe8d44912b290b003fdf4f71bc0576b785a0e1555a8", func := "assart/assartlaw37.ShrinkLeasts", spec := "shrinkLeasts", unfollowed := true, recurses := true, apart := false }
def ShrinkLeastsSaid : Prop := shrinkLeastsRow.holds Try.pinned (OpenSpec.ofChange shrinkLeastsSpec)

/-- ITS FALSE NEIGHBOUR: 'it returns false'. Refute it at one input. -/
def shrinkLeastsWrong : ChangeSpec := { name := "shrinkLeasts", fn := fun _ => fun
  | [d1, d2] => { results := [.lit (.bool false)], args := [d1, d2] }
  | _ => none }
def ShrinkLeastsWrongFalsely : Prop := shrinkLeastsRow.holds Try.pinned (OpenSpec.ofChange shrinkLeastsWrong)

/-- 'assartlaw37.ShrinkLeast': WHATEVER THE INPUT: true; the input reads as it did. -/
def shrinkLeastSpec : ChangeSpec := { name := "shrinkLeast", fn := fun _ => fun
  | [d1, d2] => { results := [.lit (.bool true)], args := [d1, d2] }
  | _ => none }
def shrinkLeastRow : OpenClaim := { program := "ytlockojfinmddaa", sum := "c2ba9d145c8f3baae1a1abe8d44912b290b003fdf4f71bc0576b785a0e1555a8", func := "assart/assartlaw37.ShrinkLeast", spec := "shrinkLeast", unfollowed := true, recurses := true, apart := false }
def ShrinkLeastSaid : Prop := shrinkLeastRow.holds Try.pinned (OpenSpec.ofChange shrinkLeastSpec)

/-- ITS FALSE NEIGHBOUR: 'it returns false'. Refute it at one input. -/
def shrinkLeastWrong : ChangeSpec := { name := "shrinkLeast", fn := fun _ => fun
  | [d1, d2] => { results := [.lit (.bool false)], args := [d1, d2] }
  | _ => none }
def ShrinkLeastWrongFalsely : Prop := shrinkLeastRow.holds Try.pinned (OpenSpec.ofChange shrinkLeastWrong)

/- THE SECOND FORM. 'bulk': how many values and letters a reading holds, each counted each time it is reached (what is shared counts as often as it is met; a slice's spare places count too). A statement '..UptoSaid' is the law's where the arguments, and the package variables that the reading takes, are together of bulk at most 1048576: NARROWER than '..Said'. Prove '..Said' where nothing that the law and all that it calls make is longer than what came in: it says more and counts as full. Else prove '..UptoSaid'. A law counts once. -/
mutual
def uptoBulk {H : Type} : DataW H → Nat
  | .lit (.string bytes) => bytes.length + 1
  | .lit _ => 1
  | .nil => 1
  | .ptr d => uptoBulk d + 1
  | .slice elems spare => uptoBulkAll elems + uptoBulkAll spare + 1
  | .agg parts => uptoBulkAll parts + 1
  | .iface _ d => uptoBulk d + 1
  | .map entries => uptoBulkEntries entries + 1
  | .held _ => 1
def uptoBulkAll {H : Type} : List (DataW H) → Nat
  | [] => 0
  | d :: r => uptoBulk d + uptoBulkAll r
def uptoBulkEntries {H : Type} : List (Lit × DataW H) → Nat
  | [] => 0
  | x :: r => uptoBulkEntry x + uptoBulkEntries r
def uptoBulkEntry {H : Type} : Lit × DataW H → Nat
  | (.string bytes, d) => bytes.length + uptoBulk d + 1
  | (_, d) => uptoBulk d + 1
 end
def uptoSmall : (H : Type) → List (DataW H) → Bool := fun _ ds => decide (uptoBulkAll ds ≤ 1048576)
def OpenSpec.upto (s : _root_.Go.ChangeSpec) : _root_.Go.OpenSpec := { _root_.Go.OpenSpec.ofChange s with cond := some uptoSmall }

/-- 'assartlaw37.ShrinkScripts', WHERE WHAT IT READS IS OF BULK AT MOST 1048576: true; the input reads as it did. -/
def shrinkScriptsUptoRow : OpenClaim := { program := "ytlockojfinmddaa", sum := "c2ba9d145c8f3baae1a1abe8d44912b290b003fdf4f71bc0576b785a0e1555a8", func := "assart/assartlaw37.ShrinkScripts", spec := "shrinkScripts", unfollowed := true, recurses := true, apart := false, narrowed := true }
def ShrinkScriptsUptoSaid : Prop := shrinkScriptsUptoRow.holds Try.pinned (OpenSpec.upto shrinkScriptsSpec)

/-- 'assartlaw37.ShrinkLeasts', WHERE WHAT IT READS IS OF BULK AT MOST 1048576: true; the input reads as it did. -/
def shrinkLeastsUptoRow : OpenClaim := { program := "ytlockojfinmddaa", sum := "c2ba9d145c8f3baae1a1abe8d44912b290b003fdf4f71bc0576b785a0e1555a8", func := "assart/assartlaw37.ShrinkLeasts", spec := "shrinkLeasts", unfollowed := true, recurses := true, apart := false, narrowed := true }
def ShrinkLeastsUptoSaid : Prop := shrinkLeastsUptoRow.holds Try.pinned (OpenSpec.upto shrinkLeastsSpec)

/-- 'assartlaw37.ShrinkLeast', WHERE WHAT IT READS IS OF BULK AT MOST 1048576: true; the input reads as it did. -/
def shrinkLeastUptoRow : OpenClaim := { program := "ytlockojfinmddaa", sum := "c2ba9d145c8f3baae1a1abe8d44912b290b003fdf4f71bc0576b785a0e1555a8", func := "assart/assartlaw37.ShrinkLeast", spec := "shrinkLeast", unfollowed := true, recurses := true, apart := false, narrowed := true }
def ShrinkLeastUptoSaid : Prop := shrinkLeastUptoRow.holds Try.pinned (OpenSpec.upto shrinkLeastSpec)

end Rows
end Go.Proofs.Ytlockojfinmddaa

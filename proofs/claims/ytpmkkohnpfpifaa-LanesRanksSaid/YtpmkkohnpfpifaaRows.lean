/-
  No cell of these rows narrows 'for every input' (looked for: loops, veiled, ifaces, maps, wideKeys, modest, calm, conditions, laid).
  DERIVED. THE GIVEN ROWS OF THIS SEAT. 4 by the template 'for every input the law returns true; each argument reads behind the call as it read before'; 0 by the template 'total and deterministic' (their statements: YtpmkkohnpfpifaaTotals.lean).
  GIVEN WITH THE SEED: the statements are not yours to turn. If you find one false, say at which input.
  Laid BY PROGRAM, IN A SANDBOX (cutbox-rows.mjs): the forced cells as the released guide's own fill.sh prints them over the translation e08c48622c2994f5… (all of the seat's roots in one cut). By AI agents, Wed Nov 11 2026. No macro, syntax, notation, axiom, sorry.
-/
import Derived.Test.YtpmkkohnpfpifaaChecked
import GoSem.Claim
import GoSem.ClaimJoined
import GoSem.ClaimMapViews
import Derived.JoinedTies
import Derived.KernelRfl
namespace Go.Proofs.Ytpmkkohnpfpifaa
/- THE CELL 'sum', in the pinned program and in every row, IS THE sha256 OF THE DUMP (.gsa) THAT YtpmkkohnpfpifaaProg.lean LOADS. Nothing in Lean hashes anything: it is a label: what it is worth is what the hold of that sum in a sandbox is worth. -/
noncomputable def Try.pinned : Pinned := { name := "ytpmkkohnpfpifaa", sum := "e08c48622c2994f533fc0ee09d6c6a43ed0310b5f70594167dbe2c2164be9880", checked := Try.checked }
namespace Rows
def none {H : Type} : Left H := { results := [], args := [] }

/-- 'assartlaw36.LanesWeaves': WHATEVER THE INPUT: true; the input reads as it did. -/
def lanesWeavesSpec : ChangeSpec := { name := "lanesWeaves", fn := fun _ => fun
  | [d1, d2, d3] => { results := [.lit (.bool true)], args := [d1, d2, d3] }
  | _ => none }
def lanesWeavesRow : OpenClaim := { program := "ytpmkkohnpfpifaa", sum := "e08c48622c2994f533fc0ee09d6c6a43ed0310b5f70594167dbe2c2164be9880", func := "assart/assartlaw36.LanesWeaves", spec := "lanesWeaves", apart := false }
def LanesWeavesSaid : Prop := lanesWeavesRow.holds Try.pinned (OpenSpec.ofChange lanesWeavesSpec)

/-- ITS FALSE NEIGHBOUR: 'it returns false'. Refute it at one input. -/
def lanesWeavesWrong : ChangeSpec := { name := "lanesWeaves", fn := fun _ => fun
  | [d1, d2, d3] => { results := [.lit (.bool false)], args := [d1, d2, d3] }
  | _ => none }
def LanesWeavesWrongFalsely : Prop := lanesWeavesRow.holds Try.pinned (OpenSpec.ofChange lanesWeavesWrong)

/-- 'assartlaw36.LanesSums': WHATEVER THE INPUT: true; the input reads as it did. -/
def lanesSumsSpec : ChangeSpec := { name := "lanesSums", fn := fun _ => fun
  | [d1, d2] => { results := [.lit (.bool true)], args := [d1, d2] }
  | _ => none }
def lanesSumsRow : OpenClaim := { program := "ytpmkkohnpfpifaa", sum := "e08c48622c2994f533fc0ee09d6c6a43ed0310b5f70594167dbe2c2164be9880", func := "assart/assartlaw36.LanesSums", spec := "lanesSums", apart := false }
def LanesSumsSaid : Prop := lanesSumsRow.holds Try.pinned (OpenSpec.ofChange lanesSumsSpec)

/-- ITS FALSE NEIGHBOUR: 'it returns false'. Refute it at one input. -/
def lanesSumsWrong : ChangeSpec := { name := "lanesSums", fn := fun _ => fun
  | [d1, d2] => { results := [.lit (.bool false)], args := [d1, d2] }
  | _ => none }
def LanesSumsWrongFalsely : Prop := lanesSumsRow.holds Try.pinned (OpenSpec.ofChange lanesSumsWrong)

/-- 'assartlaw36.LanesRanks': WHATEVER THE INPUT: true; the input reads as it did. -/
def lanesRanksSpec : ChangeSpec := { name := "lanesRanks", fn := fun _ => fun
  | [d] => { results := [.lit (.bool true)], args := [d] }
  | _ => none }
def lanesRanksRow : OpenClaim := { program := "ytpmkkohnpfpifaa", sum := "e08c48622c2994f533fc0ee09d6c6a43ed0310b5f70594167dbe2c2164be9880", func := "assart/assartlaw36.LanesRanks", spec := "lanesRanks", recurses := true, apart := false }
def LanesRanksSaid : Prop := lanesRanksRow.holds Try.pinned (OpenSpec.ofChange lanesRanksSpec)

/-- ITS FALSE NEIGHBOUR: 'it returns false'. Refute it at one input. -/
def lanesRanksWrong : ChangeSpec := { name := "lanesRanks", fn := fun _ => fun
  | [d] => { results := [.lit (.bool false)], args := [d] }
  | _ => none }
def LanesRanksWrongFalsely : Prop := lanesRanksRow.holds Try.pinned (OpenSpec.ofChange lanesRanksWrong)

/-- 'assartlaw36.LanesBack': WHATEVER THE INPUT: true; the input reads as it did. -/
def lanesBackSpec : ChangeSpec := { name := "lanesBack", fn := fun _ => fun
  | [d1, d2, d3, d4] => { results := [.lit (.bool true)], args := [d1, d2, d3, d4] }
  | _ => none }
def lanesBackRow : OpenClaim := { program := "ytpmkkohnpfpifaa", sum := "e08c48622c2994f533fc0ee09d6c6a43ed0310b5f70594167dbe2c2164be9880", func := "assart/assartlaw36.LanesBack", spec := "lanesBack", recurses := true, apart := false }
def LanesBackSaid : Prop := lanesBackRow.holds Try.pinned (OpenSpec.ofChange lanesBackSpec)

/-- ITS FALSE NEIGHBOUR: 'it returns false'. Refute it at one input. -/
def lanesBackWrong : ChangeSpec := { name := "lanesBack", fn := fun _ => fun
  | [d1, d2, d3, d4] => { results := [.lit (.bool false)], args := [d1, d2, d3, d4] }
  | _ => none }
def LanesBackWrongFalsely : Prop := lanesBackRow.holds Try.pinned (OpenSpec.ofChange lanesBackWrong)

/- THE SECOND FORM. 'bulk': how many values and letters a reading holds, each counted each time it is reached (what is shared counts as often as it is met; a slice's spare places count too). A statement '..UptoSaid' is the law's where the arguments, and the package variables that the reading takes, are together of bulk at most 1048576: NARROWER than '..Said'. Prove '..Said' where nothing that the law and all that it calls make is longer than what came in: it says more and counts as full. Else prove '..UptoSaid'. A law counts once. -/
mutual
def uptoBulk {H : Type} : DataW H → Nat
  | .lit (.string bytes) => bytes.length + 1
  | .lit _ => 1
  | .nil => 1
  | .ptr d => uptoBulk d + 1
  | .slice elems spare => uptoBulkAll elems + uptoBulkAll spare + 1
  | .agg parts => uptoBulkAll parts + 1
  | .iface _ d => uptoBulk d + 1
  | .map entries => uptoBulkEntries entries + 1
  | .held _ => 1
def uptoBulkAll {H : Type} : List (DataW H) → Nat
  | [] => 0
  | d :: r => uptoBulk d + uptoBulkAll r
def uptoBulkEntries {H : Type} : List (Lit × DataW H) → Nat
  | [] => 0
  | x :: r => uptoBulkEntry x + uptoBulkEntries r
def uptoBulkEntry {H : Type} : Lit × DataW H → Nat
  | (.string bytes, d) => bytes.length + uptoBulk d + 1
  | (_, d) => uptoBulk d + 1
 end
def uptoSmall : (H : Type) → List (DataW H) → Bool := fun _ ds => decide (uptoBulkAll ds ≤ 1048576)
def OpenSpec.upto (s : _root_.Go.ChangeSpec) : _root_.Go.OpenSpec := { _root_.Go.OpenSpec.ofChange s with cond := some uptoSmall }

/-- 'assartlaw36.LanesWeaves', WHERE WHAT IT READS IS OF BULK AT MOST 1048576: true; the input reads as it did. -/
def lanesWeavesUptoRow : OpenClaim := { program := "ytpmkkohnpfpifaa", sum := "e08c48622c2994f533fc0ee09d6c6a43ed0310b5f70594167dbe2c2164be9880", func := "assart/assartlaw36.LanesWeaves", spec := "lanesWeaves", apart := false, narrowed := true }
def LanesWeavesUptoSaid : Prop := lanesWeavesUptoRow.holds Try.pinned (OpenSpec.upto lanesWeavesSpec)

/-- 'assartlaw36.LanesSums', WHERE WHAT IT READS IS OF BULK AT MOST 1048576: true; the input reads as it did. -/
def lanesSumsUptoRow : OpenClaim := { program := "ytpmkkohnpfpifaa", sum := "e08c48622c2994f533fc0ee09d6c6a43ed0310b5f70594167dbe2c2164be9880", func := "assart/assartlaw36.LanesSums", spec := "lanesSums", apart := false, narrowed := true }
def LanesSumsUptoSaid : Prop := lanesSumsUptoRow.holds Try.pinned (OpenSpec.upto lanesSumsSpec)

/-- 'assartlaw36.LanesRanks', WHERE WHAT IT READS IS OF BULK AT MOST 1048576: true; the input reads as it did. -/
def lanesRanksUptoRow : OpenClaim := { program := "ytpmkkohnpfpifaa", sum := "e08c48622c2994f533fc0ee09d6c6a43ed0310b5f70594167dbe2c2164be9880", func := "assart/assartlaw36.LanesRanks", spec := "lanesRanks", recurses := true, apart := false, narrowed := true }
def LanesRanksUptoSaid : Prop := lanesRanksUptoRow.holds Try.pinned (OpenSpec.upto lanesRanksSpec)

/-- 'assartlaw36.LanesBack', WHERE WHAT IT READS IS OF BULK AT MOST 1048576: true; the input reads as it did. -/
def lanesBackUptoRow : OpenClaim := { program := "ytpmkkohnpfpifaa", sum := "e08c48622c2994f533fc0ee09d6c6a43ed0310b5f70594167dbe2c2164be9880", func := "assart/assartlaw36.LanesBack", spec := "lanesBack", recurses := true, apart := false, narrowed := true }
def LanesBackUptoSaid : Prop := lanesBackUptoRow.holds Try.pinned (OpenSpec.upto lanesBackSpec)

end Rows
end Go.Proofs.Ytpmkkohnpfpifaa

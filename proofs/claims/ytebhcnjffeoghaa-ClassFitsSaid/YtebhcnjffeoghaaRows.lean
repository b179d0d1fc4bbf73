/-
  No cell of these rows narrows 'for every input' (looked for: loops, veiled, ifaces, maps, wideKeys, modest, calm, conditions, laid).
  DERIVED. THE GIVEN ROWS OF THIS SEAT. 6 by the template 'for every input the law returns true; each argument reads behind the call as it read before'; 0 by the template 'total and deterministic' (their statements: YtebhcnjffeoghaaTotals.lean).
  GIVEN WITH THE SEED: the statements are not yours to turn. If you find one false, say at which input.
  Laid BY PROGRAM, IN A SANDBOX (cutbox-rows.mjs): the forced cells as the released guide's own fill.sh prints them over the translation 4bf6bfa63ee30471… (all of the seat's roots in one cut). By AI agents, Wed Nov 11 2026. No macro, syntax, notation, axiom, sorry.
-/
import Derived.Test.YtebhcnjffeoghaaChecked
import GoSem.Claim
import GoSem.ClaimJoined
import GoSem.ClaimMapViews
import Derived.JoinedTies
import Derived.KernelRfl
namespace Go.Proofs.Ytebhcnjffeoghaa
/- THE CELL 'sum', in the pinned program and in every row, IS THE sha256 OF THE DUMP (.gsa) THAT YtebhcnjffeoghaaProg.lean LOADS. Nothing in Lean hashes anything: it is a label: what it is worth is what the hold of that sum in a sandbox is worth. -/
noncomputable def Try.pinned : Pinned := { name := "ytebhcnjffeoghaa", sum := "4bf6bfa63ee30471ec33da64bd863db85b6b1f2576ab5b6452fa23aad5b56c72", checked := Try.checked }
namespace Rows
def none {H : Type} : Left H := { results := [], args := [] }

/-- 'assartlaw03.ClassSizes': WHATEVER THE INPUT: true; the input reads as it did. -/
def classSizesSpec : ChangeSpec := { name := "classSizes", fn := fun _ => fun
  | [d1, d2] => { results := [.lit (.bool true)], args := [d1, d2] }
  | _ => none }
def classSizesRow : OpenClaim := { program := "ytebhcnjffeoghaa", sum := "4bf6bfa63ee30471ec33da64bd863db85b6b1f2576ab5b6452fa23aad5b56c72", func := "assart/assartlaw03.ClassSizes", spec := "classSizes", apart := false }
def ClassSizesSaid : Prop := classSizesRow.holds Try.pinned (OpenSpec.ofChange classSizesSpec)

/-- ITS FALSE NEIGHBOUR: 'it returns false'. Refute it at one input. -/
def classSizesWrong : ChangeSpec := { name := "classSizes", fn := fun _ => fun
  | [d1, d2] => { results := [.lit (.bool false)], args := [d1, d2] }
  | _ => none }
def ClassSizesWrongFalsely : Prop := classSizesRow.holds Try.pinned (OpenSpec.ofChange classSizesWrong)

/-- 'assartlaw03.ClassFits': WHATEVER THE INPUT: true; the input reads as it did. -/
def classFitsSpec : ChangeSpec := { name := "classFits", fn := fun _ => fun
  | [d1, d2] => { results := [.lit (.bool true)], args := [d1, d2] }
  | _ => none }
def classFitsRow : OpenClaim := { program := "ytebhcnjffeoghaa", sum := "4bf6bfa63ee30471ec33da64bd863db85b6b1f2576ab5b6452fa23aad5b56c72", func := "assart/assartlaw03.ClassFits", spec := "classFits", apart := false }
def ClassFitsSaid : Prop := classFitsRow.holds Try.pinned (OpenSpec.ofChange classFitsSpec)

/-- ITS FALSE NEIGHBOUR: 'it returns false'. Refute it at one input. -/
def classFitsWrong : ChangeSpec := { name := "classFits", fn := fun _ => fun
  | [d1, d2] => { results := [.lit (.bool false)], args := [d1, d2] }
  | _ => none }
def ClassFitsWrongFalsely : Prop := classFitsRow.holds Try.pinned (OpenSpec.ofChange classFitsWrong)

/-- 'assartlaw03.ClassLeast': WHATEVER THE INPUT: true; the input reads as it did. -/
def classLeastSpec : ChangeSpec := { name := "classLeast", fn := fun _ => fun
  | [d1, d2] => { results := [.lit (.bool true)], args := [d1, d2] }
  | _ => none }
def classLeastRow : OpenClaim := { program := "ytebhcnjffeoghaa", sum := "4bf6bfa63ee30471ec33da64bd863db85b6b1f2576ab5b6452fa23aad5b56c72", func := "assart/assartlaw03.ClassLeast", spec := "classLeast", apart := false }
def ClassLeastSaid : Prop := classLeastRow.holds Try.pinned (OpenSpec.ofChange classLeastSpec)

/-- ITS FALSE NEIGHBOUR: 'it returns false'. Refute it at one input. -/
def classLeastWrong : ChangeSpec := { name := "classLeast", fn := fun _ => fun
  | [d1, d2] => { results := [.lit (.bool false)], args := [d1, d2] }
  | _ => none }
def ClassLeastWrongFalsely : Prop := classLeastRow.holds Try.pinned (OpenSpec.ofChange classLeastWrong)

/-- 'assartlaw03.ClassAligned': WHATEVER THE INPUT: true; the input reads as it did. -/
def classAlignedSpec : ChangeSpec := { name := "classAligned", fn := fun _ => fun
  | [d1, d2, d3, d4] => { results := [.lit (.bool true)], args := [d1, d2, d3, d4] }
  | _ => none }
def classAlignedRow : OpenClaim := { program := "ytebhcnjffeoghaa", sum := "4bf6bfa63ee30471ec33da64bd863db85b6b1f2576ab5b6452fa23aad5b56c72", func := "assart/assartlaw03.ClassAligned", spec := "classAligned", apart := false }
def ClassAlignedSaid : Prop := classAlignedRow.holds Try.pinned (OpenSpec.ofChange classAlignedSpec)

/-- ITS FALSE NEIGHBOUR: 'it returns false'. Refute it at one input. -/
def classAlignedWrong : ChangeSpec := { name := "classAligned", fn := fun _ => fun
  | [d1, d2, d3, d4] => { results := [.lit (.bool false)], args := [d1, d2, d3, d4] }
  | _ => none }
def ClassAlignedWrongFalsely : Prop := classAlignedRow.holds Try.pinned (OpenSpec.ofChange classAlignedWrong)

/-- 'assartlaw03.ClassPages': WHATEVER THE INPUT: true; the input reads as it did. -/
def classPagesSpec : ChangeSpec := { name := "classPages", fn := fun _ => fun
  | [d1, d2] => { results := [.lit (.bool true)], args := [d1, d2] }
  | _ => none }
def classPagesRow : OpenClaim := { program := "ytebhcnjffeoghaa", sum := "4bf6bfa63ee30471ec33da64bd863db85b6b1f2576ab5b6452fa23aad5b56c72", func := "assart/assartlaw03.ClassPages", spec := "classPages", apart := false }
def ClassPagesSaid : Prop := classPagesRow.holds Try.pinned (OpenSpec.ofChange classPagesSpec)

/-- ITS FALSE NEIGHBOUR: 'it returns false'. Refute it at one input. -/
def classPagesWrong : ChangeSpec := { name := "classPages", fn := fun _ => fun
  | [d1, d2] => { results := [.lit (.bool false)], args := [d1, d2] }
  | _ => none }
def ClassPagesWrongFalsely : Prop := classPagesRow.holds Try.pinned (OpenSpec.ofChange classPagesWrong)

/-- 'assartlaw03.ClassRounds': WHATEVER THE INPUT: true; the input reads as it did. -/
def classRoundsSpec : ChangeSpec := { name := "classRounds", fn := fun _ => fun
  | [d1, d2] => { results := [.lit (.bool true)], args := [d1, d2] }
  | _ => none }
def classRoundsRow : OpenClaim := { program := "ytebhcnjffeoghaa", sum := "4bf6bfa63ee30471ec33da64bd863db85b6b1f2576ab5b6452fa23aad5b56c72", func := "assart/assartlaw03.ClassRounds", spec := "classRounds", apart := false }
def ClassRoundsSaid : Prop := classRoundsRow.holds Try.pinned (OpenSpec.ofChange classRoundsSpec)

/-- ITS FALSE NEIGHBOUR: 'it returns false'. Refute it at one input. -/
def classRoundsWrong : ChangeSpec := { name := "classRounds", fn := fun _ => fun
  | [d1, d2] => { results := [.lit (.bool false)], args := [d1, d2] }
  | _ => none }
def ClassRoundsWrongFalsely : Prop := classRoundsRow.holds Try.pinned (OpenSpec.ofChange classRoundsWrong)

/- THE SECOND FORM. 'bulk': how many values and letters a reading holds, each counted each time it is reached (what is shared counts as often as it is met; a slice's spare places count too). A statement '..UptoSaid' is the law's where the arguments, and the package variables that the reading takes, are together of bulk at most 1048576: NARROWER than '..Said'. Prove '..Said' where nothing that the law and all that it calls make is longer than what came in: it says more and counts as full. Else prove '..UptoSaid'. A law counts once. -/
mutual
def uptoBulk {H : Type} : DataW H → Nat
  | .lit (.string bytes) => bytes.length + 1
  | .lit _ => 1
  | .nil => 1
  | .ptr d => uptoBulk d + 1
  | .slice elems spare => uptoBulkAll elems + uptoBulkAll spare + 1
  | .agg parts => uptoBulkAll parts + 1
  | .iface _ d => uptoBulk d + 1
  | .map entries => uptoBulkEntries entries + 1
  | .held _ => 1
def uptoBulkAll {H : Type} : List (DataW H) → Nat
  | [] => 0
  | d :: r => uptoBulk d + uptoBulkAll r
def uptoBulkEntries {H : Type} : List (Lit × DataW H) → Nat
  | [] => 0
  | x :: r => uptoBulkEntry x + uptoBulkEntries r
def uptoBulkEntry {H : Type} : Lit × DataW H → Nat
  | (.string bytes, d) => bytes.length + uptoBulk d + 1
  | (_, d) => uptoBulk d + 1
 end
def uptoSmall : (H : Type) → List (DataW H) → Bool := fun _ ds => decide (uptoBulkAll ds ≤ 1048576)
def OpenSpec.upto (s : _root_.Go.ChangeSpec) : _root_.Go.OpenSpec := { _root_.Go.OpenSpec.ofChange s with cond := some uptoSmall }

/-- 'assartlaw03.ClassSizes', WHERE WHAT IT READS IS OF BULK AT MOST 1048576: true; the input reads as it did. -/
def classSizesUptoRow : OpenClaim := { program := "ytebhcnjffeoghaa", sum := "4bf6bfa63ee30471ec33da64bd863db85b6b1f2576ab5b6452fa23aad5b56c72", func := "assart/assartlaw03.ClassSizes", spec := "classSizes", apart := false, narrowed := true }
def ClassSizesUptoSaid : Prop := classSizesUptoRow.holds Try.pinned (OpenSpec.upto classSizesSpec)

/-- 'assartlaw03.ClassFits', WHERE WHAT IT READS IS OF BULK AT MOST 1048576: true; the input reads as it did. -/
def classFitsUptoRow : OpenClaim := { program := "ytebhcnjffeoghaa", sum := "4bf6bfa63ee30471ec33da64bd863db85b6b1f2576ab5b6452fa23aad5b56c72", func := "assart/assartlaw03.ClassFits", spec := "classFits", apart := false, narrowed := true }
def ClassFitsUptoSaid : Prop := classFitsUptoRow.holds Try.pinned (OpenSpec.upto classFitsSpec)

/-- 'assartlaw03.ClassLeast', WHERE WHAT IT READS IS OF BULK AT MOST 1048576: true; the input reads as it did. -/
def classLeastUptoRow : OpenClaim := { program := "ytebhcnjffeoghaa", sum := "4bf6bfa63ee30471ec33da64bd863db85b6b1f2576ab5b6452fa23aad5b56c72", func := "assart/assartlaw03.ClassLeast", spec := "classLeast", apart := false, narrowed := true }
def ClassLeastUptoSaid : Prop := classLeastUptoRow.holds Try.pinned (OpenSpec.upto classLeastSpec)

/-- 'assartlaw03.ClassAligned', WHERE WHAT IT READS IS OF BULK AT MOST 1048576: true; the input reads as it did. -/
def classAlignedUptoRow : OpenClaim := { program := "ytebhcnjffeoghaa", sum := "4bf6bfa63ee30471ec33da64bd863db85b6b1f2576ab5b6452fa23aad5b56c72", func := "assart/assartlaw03.ClassAligned", spec := "classAligned", apart := false, narrowed := true }
def ClassAlignedUptoSaid : Prop := classAlignedUptoRow.holds Try.pinned (OpenSpec.upto classAlignedSpec)

/-- 'assartlaw03.ClassPages', WHERE WHAT IT READS IS OF BULK AT MOST 1048576: true; the input reads as it did. -/
def classPagesUptoRow : OpenClaim := { program := "ytebhcnjffeoghaa", sum := "4bf6bfa63ee30471ec33da64bd863db85b6b1f2576ab5b6452fa23aad5b56c72", func := "assart/assartlaw03.ClassPages", spec := "classPages", apart := false, narrowed := true }
def ClassPagesUptoSaid : Prop := classPagesUptoRow.holds Try.pinned (OpenSpec.upto classPagesSpec)

/-- 'assartlaw03.ClassRounds', WHERE WHAT IT READS IS OF BULK AT MOST 1048576: true; the input reads as it did. -/
def classRoundsUptoRow : OpenClaim := { program := "ytebhcnjffeoghaa", sum := "4bf6bfa63ee30471ec33da64bd863db85b6b1f2576ab5b6452fa23aad5b56c72", func := "assart/assartlaw03.ClassRounds", spec := "classRounds", apart := false, narrowed := true }
def ClassRoundsUptoSaid : Prop := classRoundsUptoRow.holds Try.pinned (OpenSpec.upto classRoundsSpec)

end Rows
end Go.Proofs.Ytebhcnjffeoghaa

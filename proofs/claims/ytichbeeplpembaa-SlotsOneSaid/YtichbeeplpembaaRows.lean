/-
  No cell of these rows narrows 'for every input' (looked for: loops, veiled, ifaces, maps, wideKeys, modest, calm, conditions, laid).
  DERIVED. THE GIVEN ROWS OF THIS SEAT. 5 by the template 'for every input the law returns true; each argument reads behind the call as it read before'; 0 by the template 'total and deterministic' (their statements: YtichbeeplpembaaTotals.lean).
  GIVEN WITH THE SEED: the statements are not yours to turn. If you find one false, say at which input.
  Laid BY PROGRAM, IN A SANDBOX (cutbox-rows.mjs): the forced cells as the released guide's own fill.sh prints them over the translation 5dec14cb174d92ff… (all of the seat's roots in one cut). By AI agents, Wed Nov 11 2026. No macro, syntax, notation, axiom, sorry.
-/
import Derived.Test.YtichbeeplpembaaChecked
import GoSem.Claim
import GoSem.ClaimJoined
import GoSem.ClaimMapViews
import Derived.JoinedTies
import Derived.KernelRfl
namespace Go.Proofs.Ytichbeeplpembaa
/- THE CELL 'sum', in the pinned program and in every row, IS THE sha256 OF THE DUMP (.gsa) THAT YtichbeeplpembaaProg.lean LOADS. Nothing in Lean hashes anything: it is a label: what it is worth is what the hold of that sum in a sandbox is worth. -/
noncomputable def Try.pinned : Pinned := { name := "ytichbeeplpembaa", sum := "5dec14cb174d92ff55f3bb68a320bc7f1c75d18339cf618f1977121fab5bb41b", checked := Try.checked }
namespace Rows
def none {H : Type} : Left H := { results := [], args := [] }

/-- 'assartlaw04.SlotsTurns': WHATEVER THE INPUT: true; the input reads as it did. -/
def slotsTurnsSpec : ChangeSpec := { name := "slotsTurns", fn := fun _ => fun
  | [d1, d2] => { results := [.lit (.bool true)], args := [d1, d2] }
  | _ => none }
def slotsTurnsRow : OpenClaim := { program := "ytichbeeplpembaa", sum := "5dec14cb174d92ff55f3bb68a320bc7f1c75d18339cf618f1977121fab5bb41b", func := "assart/assartlaw04.SlotsTurns", spec := "slotsTurns", unfollowed := true, recurses := true, apart := false }
def SlotsTurnsSaid : Prop := slotsTurnsRow.holds Try.pinned (OpenSpec.ofChange slotsTurnsSpec)

/-- ITS FALSE NEIGHBOUR: 'it returns false'. Refute it at one input. -/
def slotsTurnsWrong : ChangeSpec := { name := "slotsTurns", fn := fun _ => fun
  | [d1, d2] => { results := [.lit (.bool false)], args := [d1, d2] }
  | _ => none }
def SlotsTurnsWrongFalsely : Prop := slotsTurnsRow.holds Try.pinned (OpenSpec.ofChange slotsTurnsWrong)

/-- 'assartlaw04.SlotsOne': WHATEVER THE INPUT: true; the input reads as it did. -/
def slotsOneSpec : ChangeSpec := { name := "slotsOne", fn := fun _ => fun
  | [d1, d2, d3] => { results := [.lit (.bool true)], args := [d1, d2, d3] }
  | _ => none }
def slotsOneRow : OpenClaim := { program := "ytichbeeplpembaa", sum := "5dec14cb174d92ff55f3bb68a320bc7f1c75d18339cf618f1977121fab5bb41b", func := "assart/assartlaw04.SlotsOne", spec := "slotsOne", unfollowed := true, recurses := true, apart := false }
def SlotsOneSaid : Prop := slotsOneRow.holds Try.pinned (OpenSpec.ofChange slotsOneSpec)

/-- ITS FALSE NEIGHBOUR: 'it returns false'. Refute it at one input. -/
def slotsOneWrong : ChangeSpec := { name := "slotsOne", fn := fun _ => fun
  | [d1, d2, d3] => { results := [.lit (.bool false)], args := [d1, d2, d3] }
  | _ => none }
def SlotsOneWrongFalsely : Prop := slotsOneRow.holds Try.pinned (OpenSpec.ofChange slotsOneWrong)

/-- 'assartlaw04.SlotsFirst': WHATEVER THE INPUT: true; the input reads as it did. -/
def slotsFirstSpec : ChangeSpec := { name := "slotsFirst", fn := fun _ => fun
  | [d1, d2] => { results := [.lit (.bool true)], args := [d1, d2] }
  | _ => none }
def slotsFirstRow : OpenClaim := { program := "ytichbeeplpembaa", sum := "5dec14cb174d92ff55f3bb68a320bc7f1c75d18339cf618f1977121fab5bb41b", func := "assart/assartlaw04.SlotsFirst", spec := "slotsFirst", unfollowed := true, recurses := true, apart := false }
def SlotsFirstSaid : Prop := slotsFirstRow.holds Try.pinned (OpenSpec.ofChange slotsFirstSpec)

/-- ITS FALSE NEIGHBOUR: 'it returns false'. Refute it at one input. -/
def slotsFirstWrong : ChangeSpec := { name := "slotsFirst", fn := fun _ => fun
  | [d1, d2] => { results := [.lit (.bool false)], args := [d1, d2] }
  | _ => none }
def SlotsFirstWrongFalsely : Prop := slotsFirstRow.holds Try.pinned (OpenSpec.ofChange slotsFirstWrong)

/-- 'assartlaw04.SlotsLooks': WHATEVER THE INPUT: true; the input reads as it did. -/
def slotsLooksSpec : ChangeSpec := { name := "slotsLooks", fn := fun _ => fun
  | [d1, d2] => { results := [.lit (.bool true)], args := [d1, d2] }
  | _ => none }
def slotsLooksRow : OpenClaim := { program := "ytichbeeplpembaa", sum := "5dec14cb174d92ff55f3bb68a320bc7f1c75d18339cf618f1977121fab5bb41b", func := "assart/assartlaw04.SlotsLooks", spec := "slotsLooks", unfollowed := true, recurses := true, apart := false }
def SlotsLooksSaid : Prop := slotsLooksRow.holds Try.pinned (OpenSpec.ofChange slotsLooksSpec)

/-- ITS FALSE NEIGHBOUR: 'it returns false'. Refute it at one input. -/
def slotsLooksWrong : ChangeSpec := { name := "slotsLooks", fn := fun _ => fun
  | [d1, d2] => { results := [.lit (.bool false)], args := [d1, d2] }
  | _ => none }
def SlotsLooksWrongFalsely : Prop := slotsLooksRow.holds Try.pinned (OpenSpec.ofChange slotsLooksWrong)

/-- 'assartlaw04.SlotsSplit': WHATEVER THE INPUT: true; the input reads as it did. -/
def slotsSplitSpec : ChangeSpec := { name := "slotsSplit", fn := fun _ => fun
  | [d1, d2] => { results := [.lit (.bool true)], args := [d1, d2] }
  | _ => none }
def slotsSplitRow : OpenClaim := { program := "ytichbeeplpembaa", sum := "5dec14cb174d92ff55f3bb68a320bc7f1c75d18339cf618f1977121fab5bb41b", func := "assart/assartlaw04.SlotsSplit", spec := "slotsSplit", unfollowed := true, recurses := true, apart := false }
def SlotsSplitSaid : Prop := slotsSplitRow.holds Try.pinned (OpenSpec.ofChange slotsSplitSpec)

/-- ITS FALSE NEIGHBOUR: 'it returns false'. Refute it at one input. -/
def slotsSplitWrong : ChangeSpec := { name := "slotsSplit", fn := fun _ => fun
  | [d1, d2] => { results := [.lit (.bool false)], args := [d1, d2] }
  | _ => none }
def SlotsSplitWrongFalsely : Prop := slotsSplitRow.holds Try.pinned (OpenSpec.ofChange slotsSplitWrong)

/- THE SECOND FORM. 'bulk': how many values and letters a reading holds, each counted each time it is reached (what is shared counts as often as it is met; a slice's spare places count too). A statement '..UptoSaid' is the law's where the arguments, and the package variables that the reading takes, are together of bulk at most 1048576: NARROWER than '..Said'. Prove '..Said' where nothing that the law and all that it calls make is longer than what came in: it says more and counts as full. Else prove '..UptoSaid'. A law counts once. -/
mutual
def uptoBulk {H : Type} : DataW H → Nat
  | .lit (.string bytes) => bytes.length + 1
  | .lit _ => 1
  | .nil => 1
  | .ptr d => uptoBulk d + 1
  | .slice elems spare => uptoBulkAll elems + uptoBulkAll spare + 1
  | .agg parts => uptoBulkAll parts + 1
  | .iface _ d => uptoBulk d + 1
  | .map entries => uptoBulkEntries entries + 1
  | .held _ => 1
def uptoBulkAll {H : Type} : List (DataW H) → Nat
  | [] => 0
  | d :: r => uptoBulk d + uptoBulkAll r
def uptoBulkEntries {H : Type} : List (Lit × DataW H) → Nat
  | [] => 0
  | x :: r => uptoBulkEntry x + uptoBulkEntries r
def uptoBulkEntry {H : Type} : Lit × DataW H → Nat
  | (.string bytes, d) => bytes.length + uptoBulk d + 1
  | (_, d) => uptoBulk d + 1
 end
def uptoSmall : (H : Type) → List (DataW H) → Bool := fun _ ds => decide (uptoBulkAll ds ≤ 1048576)
def OpenSpec.upto (s : _root_.Go.ChangeSpec) : _root_.Go.OpenSpec := { _root_.Go.OpenSpec.ofChange s with cond := some uptoSmall }

/-- 'assartlaw04.SlotsTurns', WHERE WHAT IT READS IS OF BULK AT MOST 1048576: true; the input reads as it did. -/
def slotsTurnsUptoRow : OpenClaim := { program := "ytichbeeplpembaa", sum := "5dec14cb174d92ff55f3bb68a320bc7f1c75d18339cf618f1977121fab5bb41b", func := "assart/assartlaw04.SlotsTurns", spec := "slotsTurns", unfollowed := true, recurses := true, apart := false, narrowed := true }
def SlotsTurnsUptoSaid : Prop := slotsTurnsUptoRow.holds Try.pinned (OpenSpec.upto slotsTurnsSpec)

/-- 'assartlaw04.SlotsOne', WHERE WHAT IT READS IS OF BULK AT MOST 1048576: true; the input reads as it did. -/
def slotsOneUptoRow : OpenClaim := { program := "ytichbeeplpembaa", sum := "5dec14cb174d92ff55f3bb68a320bc7f1c75d18339cf618f1977121fab5bb41b", func := "assart/assartlaw04.SlotsOne", spec := "slotsOne", unfollowed := true, recurses := true, apart := false, narrowed := true }
def SlotsOneUptoSaid : Prop := slotsOneUptoRow.holds Try.pinned (OpenSpec.upto slotsOneSpec)

/-- 'assartlaw04.SlotsFirst', WHERE WHAT IT READS IS OF BULK AT MOST 1048576: true; the input reads as it did. -/
def slotsFirstUptoRow : OpenClaim := { program := "ytichbeeplpembaa", sum := "5dec14cb174d92ff55f3bb68a320bc7f1c75d18339cf618f1977121fab5bb41b", func := "assart/assartlaw04.SlotsFirst", spec := "slotsFirst", unfollowed := true, recurses := true, apart := false, narrowed := true }
def SlotsFirstUptoSaid : Prop := slotsFirstUptoRow.holds Try.pinned (OpenSpec.upto slotsFirstSpec)

/-- 'assartlaw04.SlotsLooks', WHERE WHAT IT READS IS OF BULK AT MOST 1048576: true; the input reads as it did. -/
def slotsLooksUptoRow : OpenClaim := { program := "ytichbeeplpembaa", sum := "5dec14cb174d92ff55f3bb68a320bc7f1c75d18339cf618f1977121fab5bb41b", func := "assart/assartlaw04.SlotsLooks", spec := "slotsLooks", unfollowed := true, recurses := true, apart := false, narrowed := true }
def SlotsLooksUptoSaid : Prop := slotsLooksUptoRow.holds Try.pinned (OpenSpec.upto slotsLooksSpec)

/-- 'assartlaw04.SlotsSplit', WHERE WHAT IT READS IS OF BULK AT MOST 1048576: true; the input reads as it did. -/
def slotsSplitUptoRow : OpenClaim := { program := "ytichbeeplpembaa", sum := "5dec14cb174d92ff55f3bb68a320bc7f1c75d18339cf618f1977121fab5bb41b", func := "assart/assartlaw04.SlotsSplit", spec := "slotsSplit", unfollowed := true, recurses := true, apart := false, narrowed := true }
def SlotsSplitUptoSaid : Prop := slotsSplitUptoRow.holds Try.pinned (OpenSpec.upto slotsSplitSpec)

end Rows
end Go.Proofs.Ytichbeeplpembaa

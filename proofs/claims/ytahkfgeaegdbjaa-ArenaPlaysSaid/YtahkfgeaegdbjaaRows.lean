/-
  No cell of these rows narrows 'for every input' (looked for: loops, veiled, ifaces, maps, wideKeys, modest, calm, conditions, laid).
  DERIVED. THE GIVEN ROWS OF THIS SEAT. 5 by the template 'for every input the law returns true; each argument reads behind the call as it read before'; 0 by the template 'total and deterministic' (their statements: YtahkfgeaegdbjaaTotals.lean).
  GIVEN WITH THE SEED: the statements are not yours to turn. If you find one false, say at which input.
  Laid BY PROGRAM, IN A SANDBOX (cutbox-rows.mjs): the forced cells as the released guide's own fill.sh prints them over the translation 44af58a5cb8cb60e… (all of the seat's roots in one cut). By AI agents, Wed Nov 11 2026. No macro, syntax, notation, axiom, sorry.
-/
import Derived.Test.YtahkfgeaegdbjaaChecked
import GoSem.Claim
import GoSem.ClaimJoined
import GoSem.ClaimMapViews
import Derived.JoinedTies
import Derived.KernelRfl
namespace Go.Proofs.Ytahkfgeaegdbjaa
/- THE CELL 'sum', in the pinned program and in every row, IS THE sha256 OF THE DUMP (.gsa) THAT YtahkfgeaegdbjaaProg.lean LOADS. Nothing in Lean hashes anything: it is a label: what it is worth is what the hold of that sum in a sandbox is worth. -/
noncomputable def Try.pinned : Pinned := { name := "ytahkfgeaegdbjaa", sum := "44af58a5cb8cb60eb2934462495b147a01215a46457b010c0c26b21efa7f15a6", checked := Try.checked }
namespace Rows
def none {H : Type} : Left H := { results := [], args := [] }

/-- 'assartlaw01.ArenaSizes': WHATEVER THE INPUT: true; the input reads as it did. -/
def arenaSizesSpec : ChangeSpec := { name := "arenaSizes", fn := fun _ => fun
  | [d] => { results := [.lit (.bool true)], args := [d] }
  | _ => none }
def arenaSizesRow : OpenClaim := { program := "ytahkfgeaegdbjaa", sum := "44af58a5cb8cb60eb2934462495b147a01215a46457b010c0c26b21efa7f15a6", func := "assart/assartlaw01.ArenaSizes", spec := "arenaSizes", unfollowed := true, recurses := true, apart := false }
def ArenaSizesSaid : Prop := arenaSizesRow.holds Try.pinned (OpenSpec.ofChange arenaSizesSpec)

/-- ITS FALSE NEIGHBOUR: 'it returns false'. Refute it at one input. -/
def arenaSizesWrong : ChangeSpec := { name := "arenaSizes", fn := fun _ => fun
  | [d] => { results := [.lit (.bool false)], args := [d] }
  | _ => none }
def ArenaSizesWrongFalsely : Prop := arenaSizesRow.holds Try.pinned (OpenSpec.ofChange arenaSizesWrong)

/-- 'assartlaw01.ArenaClock': WHATEVER THE INPUT: true; the input reads as it did. -/
def arenaClockSpec : ChangeSpec := { name := "arenaClock", fn := fun _ => fun
  | [d1, d2, d3] => { results := [.lit (.bool true)], args := [d1, d2, d3] }
  | _ => none }
def arenaClockRow : OpenClaim := { program := "ytahkfgeaegdbjaa", sum := "44af58a5cb8cb60eb2934462495b147a01215a46457b010c0c26b21efa7f15a6", func := "assart/assartlaw01.ArenaClock", spec := "arenaClock", unfollowed := true, recurses := true, apart := false }
def ArenaClockSaid : Prop := arenaClockRow.holds Try.pinned (OpenSpec.ofChange arenaClockSpec)

/-- ITS FALSE NEIGHBOUR: 'it returns false'. Refute it at one input. -/
def arenaClockWrong : ChangeSpec := { name := "arenaClock", fn := fun _ => fun
  | [d1, d2, d3] => { results := [.lit (.bool false)], args := [d1, d2, d3] }
  | _ => none }
def ArenaClockWrongFalsely : Prop := arenaClockRow.holds Try.pinned (OpenSpec.ofChange arenaClockWrong)

/-- 'assartlaw01.ArenaOne': WHATEVER THE INPUT: true; the input reads as it did. -/
def arenaOneSpec : ChangeSpec := { name := "arenaOne", fn := fun _ => fun
  | [d1, d2] => { results := [.lit (.bool true)], args := [d1, d2] }
  | _ => none }
def arenaOneRow : OpenClaim := { program := "ytahkfgeaegdbjaa", sum := "44af58a5cb8cb60eb2934462495b147a01215a46457b010c0c26b21efa7f15a6", func := "assart/assartlaw01.ArenaOne", spec := "arenaOne", unfollowed := true, recurses := true, apart := false }
def ArenaOneSaid : Prop := arenaOneRow.holds Try.pinned (OpenSpec.ofChange arenaOneSpec)

/-- ITS FALSE NEIGHBOUR: 'it returns false'. Refute it at one input. -/
def arenaOneWrong : ChangeSpec := { name := "arenaOne", fn := fun _ => fun
  | [d1, d2] => { results := [.lit (.bool false)], args := [d1, d2] }
  | _ => none }
def ArenaOneWrongFalsely : Prop := arenaOneRow.holds Try.pinned (OpenSpec.ofChange arenaOneWrong)

/-- 'assartlaw01.ArenaPlays': WHATEVER THE INPUT: true; the input reads as it did. -/
def arenaPlaysSpec : ChangeSpec := { name := "arenaPlays", fn := fun _ => fun
  | [d1, d2] => { results := [.lit (.bool true)], args := [d1, d2] }
  | _ => none }
def arenaPlaysRow : OpenClaim := { program := "ytahkfgeaegdbjaa", sum := "44af58a5cb8cb60eb2934462495b147a01215a46457b010c0c26b21efa7f15a6", func := "assart/assartlaw01.ArenaPlays", spec := "arenaPlays", unfollowed := true, recurses := true, apart := false }
def ArenaPlaysSaid : Prop := arenaPlaysRow.holds Try.pinned (OpenSpec.ofChange arenaPlaysSpec)

/-- ITS FALSE NEIGHBOUR: 'it returns false'. Refute it at one input. -/
def arenaPlaysWrong : ChangeSpec := { name := "arenaPlays", fn := fun _ => fun
  | [d1, d2] => { results := [.lit (.bool false)], args := [d1, d2] }
  | _ => none }
def ArenaPlaysWrongFalsely : Prop := arenaPlaysRow.holds Try.pinned (OpenSpec.ofChange arenaPlaysWrong)

/-- 'assartlaw01.ArenaNil': WHATEVER THE INPUT: true; the input reads as it did. -/
def arenaNilSpec : ChangeSpec := { name := "arenaNil", fn := fun _ => fun
  | [d1, d2] => { results := [.lit (.bool true)], args := [d1, d2] }
  | _ => none }
def arenaNilRow : OpenClaim := { program := "ytahkfgeaegdbjaa", sum := "44af58a5cb8cb60eb2934462495b147a01215a46457b010c0c26b21efa7f15a6", func := "assart/assartlaw01.ArenaNil", spec := "arenaNil", unfollowed := true, recurses := true, apart := false }
def ArenaNilSaid : Prop := arenaNilRow.holds Try.pinned (OpenSpec.ofChange arenaNilSpec)

/-- ITS FALSE NEIGHBOUR: 'it returns false'. Refute it at one input. -/
def arenaNilWrong : ChangeSpec := { name := "arenaNil", fn := fun _ => fun
  | [d1, d2] => { results := [.lit (.bool false)], args := [d1, d2] }
  | _ => none }
def ArenaNilWrongFalsely : Prop := arenaNilRow.holds Try.pinned (OpenSpec.ofChange arenaNilWrong)

/- THE SECOND FORM. 'bulk': how many values and letters a reading holds, each counted each time it is reached (what is shared counts as often as it is met; a slice's spare places count too). A statement '..UptoSaid' is the law's where the arguments, and the package variables that the reading takes, are together of bulk at most 1048576: NARROWER than '..Said'. Prove '..Said' where nothing that the law and all that it calls make is longer than what came in: it says more and counts as full. Else prove '..UptoSaid'. A law counts once. -/
mutual
def uptoBulk {H : Type} : DataW H → Nat
  | .lit (.string bytes) => bytes.length + 1
  | .lit _ => 1
  | .nil => 1
  | .ptr d => uptoBulk d + 1
  | .slice elems spare => uptoBulkAll elems + uptoBulkAll spare + 1
  | .agg parts => uptoBulkAll parts + 1
  | .iface _ d => uptoBulk d + 1
  | .map entries => uptoBulkEntries entries + 1
  | .held _ => 1
def uptoBulkAll {H : Type} : List (DataW H) → Nat
  | [] => 0
  | d :: r => uptoBulk d + uptoBulkAll r
def uptoBulkEntries {H : Type} : List (Lit × DataW H) → Nat
  | [] => 0
  | x :: r => uptoBulkEntry x + uptoBulkEntries r
def uptoBulkEntry {H : Type} : Lit × DataW H → Nat
  | (.string bytes, d) => bytes.length + uptoBulk d + 1
  | (_, d) => uptoBulk d + 1
 end
def uptoSmall : (H : Type) → List (DataW H) → Bool := fun _ ds => decide (uptoBulkAll ds ≤ 1048576)
def OpenSpec.upto (s : _root_.Go.ChangeSpec) : _root_.Go.OpenSpec := { _root_.Go.OpenSpec.ofChange s with cond := some uptoSmall }

/-- 'assartlaw01.ArenaSizes', WHERE WHAT IT READS IS OF BULK AT MOST 1048576: true; the input reads as it did. -/
def arenaSizesUptoRow : OpenClaim := { program := "ytahkfgeaegdbjaa", sum := "44af58a5cb8cb60eb2934462495b147a01215a46457b010c0c26b21efa7f15a6", func := "assart/assartlaw01.ArenaSizes", spec := "arenaSizes", unfollowed := true, recurses := true, apart := false, narrowed := true }
def ArenaSizesUptoSaid : Prop := arenaSizesUptoRow.holds Try.pinned (OpenSpec.upto arenaSizesSpec)

/-- 'assartlaw01.ArenaClock', WHERE WHAT IT READS IS OF BULK AT MOST 1048576: true; the input reads as it did. -/
def arenaClockUptoRow : OpenClaim := { program := "ytahkfgeaegdbjaa", sum := "44af58a5cb8cb60eb2934462495b147a01215a46457b010c0c26b21efa7f15a6", func := "assart/assartlaw01.ArenaClock", spec := "arenaClock", unfollowed := true, recurses := true, apart := false, narrowed := true }
def ArenaClockUptoSaid : Prop := arenaClockUptoRow.holds Try.pinned (OpenSpec.upto arenaClockSpec)

/-- 'assartlaw01.ArenaOne', WHERE WHAT IT READS IS OF BULK AT MOST 1048576: true; the input reads as it did. -/
def arenaOneUptoRow : OpenClaim := { program := "ytahkfgeaegdbjaa", sum := "44af58a5cb8cb60eb2934462495b147a01215a46457b010c0c26b21efa7f15a6", func := "assart/assartlaw01.ArenaOne", spec := "arenaOne", unfollowed := true, recurses := true, apart := false, narrowed := true }
def ArenaOneUptoSaid : Prop := arenaOneUptoRow.holds Try.pinned (OpenSpec.upto arenaOneSpec)

/-- 'assartlaw01.ArenaPlays', WHERE WHAT IT READS IS OF BULK AT MOST 1048576: true; the input reads as it did. -/
def arenaPlaysUptoRow : OpenClaim := { program := "ytahkfgeaegdbjaa", sum := "44af58a5cb8cb60eb2934462495b147a01215a46457b010c0c26b21efa7f15a6", func := "assart/assartlaw01.ArenaPlays", spec := "arenaPlays", unfollowed := true, recurses := true, apart := false, narrowed := true }
def ArenaPlaysUptoSaid : Prop := arenaPlaysUptoRow.holds Try.pinned (OpenSpec.upto arenaPlaysSpec)

/-- 'assartlaw01.ArenaNil', WHERE WHAT IT READS IS OF BULK AT MOST 1048576: true; the input reads as it did. -/
def arenaNilUptoRow : OpenClaim := { program := "ytahkfgeaegdbjaa", sum := "44af58a5cb8cb60eb2934462495b147a01215a46457b010c0c26b21efa7f15a6", func := "assart/assartlaw01.ArenaNil", spec := "arenaNil", unfollowed := true, recurses := true, apart := false, narrowed := true }
def ArenaNilUptoSaid : Prop := arenaNilUptoRow.holds Try.pinned (OpenSpec.upto arenaNilSpec)

end Rows
end Go.Proofs.Ytahkfgeaegdbjaa

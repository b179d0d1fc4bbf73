/-
  DERIVED. GIVEN WITH THE SEED: THE CARDS: each row of YtkachkmmjlboeaaDoorRows.lean that lists a variable, with what it lists TIED to the program's text (the seventh form; the later family's looks); each row that meets fmt, with fmt's text TOLD by the authors' own Lean function (tested against real Go, not proved from fmt's source: count such statements apart). THE CARD IS WHAT COUNTS. Prove the row's statement (the work); the ties are given (YtkachkmmjlboeaaDoorTie.lean); close each card by the builder's one call (the guide's Derived/Test/ToyasCard.lean, 'card_holds'). Laid BY PROGRAM, IN A SANDBOX (cutbox-door.mjs). By AI agents, Wed Nov 11 2026. No macro, syntax, notation, axiom, sorry.
-/
import Derived.Test.YtkachkmmjlboeaaDoorRows
import GoSem.ClaimSeven
namespace Go.Proofs.YtkachkmmjlboeaaDoor
namespace Rows

/-- THE TIED CARD OF 'assartlaw30.CallcodeNums'. -/
def callcodeNumsCard : Claim7 := { stood := { row := callcodeNumsRow, standIns := [], harness := (true, "f0d402f27bdd04f08106e7ff47a9643772223401f72f7692e8fb9ec14c81671c"), looks := false }, kinds := [], alts := [], laidByText := true, laidKinds := [.data, .pinned], laidTests := true, laidLooks := .later }
def CallcodeNumsCardSaid : Prop := Claim7.holds Tryd.pinned (.plain (OpenSpec.ofChange callcodeNumsSpec)) callcodeNumsCard

/-- THE TIED CARD OF 'assartlaw30.CallcodeCalls'. -/
def callcodeCallsCard : Claim7 := { stood := { row := callcodeCallsRow, standIns := [], harness := (true, "f0d402f27bdd04f08106e7ff47a9643772223401f72f7692e8fb9ec14c81671c"), looks := false }, kinds := [], alts := [], laidByText := true, laidKinds := [.data, .pinned], laidTests := true, laidLooks := .later }
def CallcodeCallsCardSaid : Prop := Claim7.holds Tryd.pinned (.plain (OpenSpec.ofChange callcodeCallsSpec)) callcodeCallsCard

/-- THE TIED CARD OF 'assartlaw30.CallcodeReplies'. -/
def callcodeRepliesCard : Claim7 := { stood := { row := callcodeRepliesRow, standIns := [], harness := (true, "f0d402f27bdd04f08106e7ff47a9643772223401f72f7692e8fb9ec14c81671c"), looks := false }, kinds := [], alts := [], laidByText := true, laidKinds := [.data, .pinned], laidTests := true, laidLooks := .later }
def CallcodeRepliesCardSaid : Prop := Claim7.holds Tryd.pinned (.plain (OpenSpec.ofChange callcodeRepliesSpec)) callcodeRepliesCard

/-- THE TIED CARD OF 'assartlaw30.CallcodeBack'. -/
def callcodeBackCard : Claim7 := { stood := { row := callcodeBackRow, standIns := [], harness := (true, "f0d402f27bdd04f08106e7ff47a9643772223401f72f7692e8fb9ec14c81671c"), looks := false }, kinds := [], alts := [], laidByText := true, laidKinds := [.data, .pinned], laidTests := true, laidLooks := .later }
def CallcodeBackCardSaid : Prop := Claim7.holds Tryd.pinned (.plain (OpenSpec.ofChange callcodeBackSpec)) callcodeBackCard

/-- THE TIED CARD OF 'assartlaw30.CallcodeAgain'. -/
def callcodeAgainCard : Claim7 := { stood := { row := callcodeAgainRow, standIns := [], harness := (true, "f0d402f27bdd04f08106e7ff47a9643772223401f72f7692e8fb9ec14c81671c"), looks := false }, kinds := [], alts := [], laidByText := true, laidKinds := [.data, .pinned], laidTests := true, laidLooks := .later }
def CallcodeAgainCardSaid : Prop := Claim7.holds Tryd.pinned (.plain (OpenSpec.ofChange callcodeAgainSpec)) callcodeAgainCard

/-- THE SECOND FORM's CARD OF 'assartlaw30.CallcodeNums'. -/
def callcodeNumsUptoCard : Claim7 := { stood := { row := callcodeNumsUptoRow, standIns := [], harness := (true, "f0d402f27bdd04f08106e7ff47a9643772223401f72f7692e8fb9ec14c81671c"), looks := false }, kinds := [], alts := [], laidByText := true, laidKinds := [.data, .pinned], laidTests := true, laidLooks := .later }
def CallcodeNumsUptoCardSaid : Prop := Claim7.holds Tryd.pinned (.plain (OpenSpec.upto callcodeNumsSpec)) callcodeNumsUptoCard

/-- THE SECOND FORM's CARD OF 'assartlaw30.CallcodeCalls'. -/
def callcodeCallsUptoCard : Claim7 := { stood := { row := callcodeCallsUptoRow, standIns := [], harness := (true, "f0d402f27bdd04f08106e7ff47a9643772223401f72f7692e8fb9ec14c81671c"), looks := false }, kinds := [], alts := [], laidByText := true, laidKinds := [.data, .pinned], laidTests := true, laidLooks := .later }
def CallcodeCallsUptoCardSaid : Prop := Claim7.holds Tryd.pinned (.plain (OpenSpec.upto callcodeCallsSpec)) callcodeCallsUptoCard

/-- THE SECOND FORM's CARD OF 'assartlaw30.CallcodeReplies'. -/
def callcodeRepliesUptoCard : Claim7 := { stood := { row := callcodeRepliesUptoRow, standIns := [], harness := (true, "f0d402f27bdd04f08106e7ff47a9643772223401f72f7692e8fb9ec14c81671c"), looks := false }, kinds := [], alts := [], laidByText := true, laidKinds := [.data, .pinned], laidTests := true, laidLooks := .later }
def CallcodeRepliesUptoCardSaid : Prop := Claim7.holds Tryd.pinned (.plain (OpenSpec.upto callcodeRepliesSpec)) callcodeRepliesUptoCard

/-- THE SECOND FORM's CARD OF 'assartlaw30.CallcodeBack'. -/
def callcodeBackUptoCard : Claim7 := { stood := { row := callcodeBackUptoRow, standIns := [], harness := (true, "f0d402f27bdd04f08106e7ff47a9643772223401f72f7692e8fb9ec14c81671c"), looks := false }, kinds := [], alts := [], laidByText := true, laidKinds := [.data, .pinned], laidTests := true, laidLooks := .later }
def CallcodeBackUptoCardSaid : Prop := Claim7.holds Tryd.pinned (.plain (OpenSpec.upto callcodeBackSpec)) callcodeBackUptoCard

/-- THE SECOND FORM's CARD OF 'assartlaw30.CallcodeAgain'. -/
def callcodeAgainUptoCard : Claim7 := { stood := { row := callcodeAgainUptoRow, standIns := [], harness := (true, "f0d402f27bdd04f08106e7ff47a9643772223401f72f7692e8fb9ec14c81671c"), looks := false }, kinds := [], alts := [], laidByText := true, laidKinds := [.data, .pinned], laidTests := true, laidLooks := .later }
def CallcodeAgainUptoCardSaid : Prop := Claim7.holds Tryd.pinned (.plain (OpenSpec.upto callcodeAgainSpec)) callcodeAgainUptoCard
end Rows
end Go.Proofs.YtkachkmmjlboeaaDoor

/-
  DERIVED. GIVEN WITH THE SEED: THE CARDS: each row of YtodkkholbjeioaaGreatDoorRows.lean that lists a variable, with what it lists TIED to the program's text (the seventh form; the later family's looks); each row that meets fmt, with fmt's text TOLD by the authors' own Lean function (tested against real Go, not proved from fmt's source: count such statements apart). THE CARD IS WHAT COUNTS. Prove the row's statement (the work); the ties are given (YtodkkholbjeioaaGreatDoorTie.lean); close each card by the builder's one call (the guide's Derived/Test/ToyasCard.lean, 'card_holds'). Laid BY PROGRAM, IN A SANDBOX (cutbox-door.mjs). By AI agents, Wed Nov 11 2026. No macro, syntax, notation, axiom, sorry.
-/
import Derived.Test.YtodkkholbjeioaaGreatDoorRows
import GoSem.ClaimSeven
namespace Go.Proofs.YtodkkholbjeioaaGreatDoor
namespace Rows

/-- THE TIED CARD OF 'evictorlaw.Owned'. -/
def ownedCard : Claim7 := { stood := { row := ownedRow, standIns := [], harness := (true, "a1b4b3b865fb32d72032a2a32089d9590369d1538ac44d5cbf19062c3378a2a7"), looks := true }, kinds := [], alts := [], laidByText := true, laidKinds := [.data, .data, .data, .data, .handle, .sentinel, .sentinel, .sentinel, .sentinel, .sentinel, .sentinel, .sentinel, .sentinel, .sentinel, .sentinel, .sentinel, .sentinel, .widerDeep, .sentinel, .sentinel], laidTests := true, laidLooks := .later }
def OwnedCardSaid : Prop := Claim7.holds Tryz.pinned (.plain (OpenSpec.ofChange ownedSpec)) ownedCard

/-- THE TIED CARD OF 'evictorlaw.All'. -/
def allCard : Claim7 := { stood := { row := allRow, standIns := [], harness := (true, "a1b4b3b865fb32d72032a2a32089d9590369d1538ac44d5cbf19062c3378a2a7"), looks := true }, kinds := [], alts := [], laidByText := true, laidKinds := [.data, .data, .data, .data, .handle, .sentinel, .sentinel, .sentinel, .sentinel, .sentinel, .sentinel, .sentinel, .sentinel, .sentinel, .sentinel, .sentinel, .sentinel, .widerDeep, .sentinel, .sentinel], laidTests := true, laidLooks := .later }
def AllCardSaid : Prop := Claim7.holds Tryz.pinned (.plain (OpenSpec.ofChange allSpec)) allCard

/-- THE TIED CARD OF 'evictorlaw.Keys'. -/
def keysCard : Claim7 := { stood := { row := keysRow, standIns := [], harness := (true, "a1b4b3b865fb32d72032a2a32089d9590369d1538ac44d5cbf19062c3378a2a7"), looks := true }, kinds := [], alts := [], laidByText := true, laidKinds := [.data, .data, .data, .data, .handle, .sentinel, .sentinel, .sentinel, .sentinel, .sentinel, .sentinel, .sentinel, .sentinel, .sentinel, .sentinel, .sentinel, .sentinel, .widerDeep, .sentinel, .sentinel], laidTests := true, laidLooks := .later }
def KeysCardSaid : Prop := Claim7.holds Tryz.pinned (.plain (OpenSpec.ofChange keysSpec)) keysCard

/-- THE TIED CARD OF 'evictorlaw.Values'. -/
def valuesCard : Claim7 := { stood := { row := valuesRow, standIns := [], harness := (true, "a1b4b3b865fb32d72032a2a32089d9590369d1538ac44d5cbf19062c3378a2a7"), looks := true }, kinds := [], alts := [], laidByText := true, laidKinds := [.data, .data, .data, .data, .handle, .sentinel, .sentinel, .sentinel, .sentinel, .sentinel, .sentinel, .sentinel, .sentinel, .sentinel, .sentinel, .sentinel, .sentinel, .widerDeep, .sentinel, .sentinel], laidTests := true, laidLooks := .later }
def ValuesCardSaid : Prop := Claim7.holds Tryz.pinned (.plain (OpenSpec.ofChange valuesSpec)) valuesCard

/-- THE TIED CARD OF 'evictorlaw.Counts'. -/
def countsCard : Claim7 := { stood := { row := countsRow, standIns := [], harness := (true, "a1b4b3b865fb32d72032a2a32089d9590369d1538ac44d5cbf19062c3378a2a7"), looks := true }, kinds := [], alts := [], laidByText := true, laidKinds := [.data, .data, .data, .data, .handle, .sentinel, .sentinel, .sentinel, .sentinel, .sentinel, .sentinel, .sentinel, .sentinel, .sentinel, .sentinel, .sentinel, .sentinel, .widerDeep, .sentinel, .sentinel], laidTests := true, laidLooks := .later }
def CountsCardSaid : Prop := Claim7.holds Tryz.pinned (.plain (OpenSpec.ofChange countsSpec)) countsCard

/-- THE SECOND FORM's CARD OF 'evictorlaw.Owned'. -/
def ownedUptoCard : Claim7 := { stood := { row := ownedUptoRow, standIns := [], harness := (true, "a1b4b3b865fb32d72032a2a32089d9590369d1538ac44d5cbf19062c3378a2a7"), looks := true }, kinds := [], alts := [], laidByText := true, laidKinds := [.data, .data, .data, .data, .handle, .sentinel, .sentinel, .sentinel, .sentinel, .sentinel, .sentinel, .sentinel, .sentinel, .sentinel, .sentinel, .sentinel, .sentinel, .widerDeep, .sentinel, .sentinel], laidTests := true, laidLooks := .later }
def OwnedUptoCardSaid : Prop := Claim7.holds Tryz.pinned (.plain (OpenSpec.upto ownedSpec)) ownedUptoCard

/-- THE SECOND FORM's CARD OF 'evictorlaw.All'. -/
def allUptoCard : Claim7 := { stood := { row := allUptoRow, standIns := [], harness := (true, "a1b4b3b865fb32d72032a2a32089d9590369d1538ac44d5cbf19062c3378a2a7"), looks := true }, kinds := [], alts := [], laidByText := true, laidKinds := [.data, .data, .data, .data, .handle, .sentinel, .sentinel, .sentinel, .sentinel, .sentinel, .sentinel, .sentinel, .sentinel, .sentinel, .sentinel, .sentinel, .sentinel, .widerDeep, .sentinel, .sentinel], laidTests := true, laidLooks := .later }
def AllUptoCardSaid : Prop := Claim7.holds Tryz.pinned (.plain (OpenSpec.upto allSpec)) allUptoCard

/-- THE SECOND FORM's CARD OF 'evictorlaw.Keys'. -/
def keysUptoCard : Claim7 := { stood := { row := keysUptoRow, standIns := [], harness := (true, "a1b4b3b865fb32d72032a2a32089d9590369d1538ac44d5cbf19062c3378a2a7"), looks := true }, kinds := [], alts := [], laidByText := true, laidKinds := [.data, .data, .data, .data, .handle, .sentinel, .sentinel, .sentinel, .sentinel, .sentinel, .sentinel, .sentinel, .sentinel, .sentinel, .sentinel, .sentinel, .sentinel, .widerDeep, .sentinel, .sentinel], laidTests := true, laidLooks := .later }
def KeysUptoCardSaid : Prop := Claim7.holds Tryz.pinned (.plain (OpenSpec.upto keysSpec)) keysUptoCard

/-- THE SECOND FORM's CARD OF 'evictorlaw.Values'. -/
def valuesUptoCard : Claim7 := { stood := { row := valuesUptoRow, standIns := [], harness := (true, "a1b4b3b865fb32d72032a2a32089d9590369d1538ac44d5cbf19062c3378a2a7"), looks := true }, kinds := [], alts := [], laidByText := true, laidKinds := [.data, .data, .data, .data, .handle, .sentinel, .sentinel, .sentinel, .sentinel, .sentinel, .sentinel, .sentinel, .sentinel, .sentinel, .sentinel, .sentinel, .sentinel, .widerDeep, .sentinel, .sentinel], laidTests := true, laidLooks := .later }
def ValuesUptoCardSaid : Prop := Claim7.holds Tryz.pinned (.plain (OpenSpec.upto valuesSpec)) valuesUptoCard

/-- THE SECOND FORM's CARD OF 'evictorlaw.Counts'. -/
def countsUptoCard : Claim7 := { stood := { row := countsUptoRow, standIns := [], harness := (true, "a1b4b3b865fb32d72032a2a32089d9590369d1538ac44d5cbf19062c3378a2a7"), looks := true }, kinds := [], alts := [], laidByText := true, laidKinds := [.data, .data, .data, .data, .handle, .sentinel, .sentinel, .sentinel, .sentinel, .sentinel, .sentinel, .sentinel, .sentinel, .sentinel, .sentinel, .sentinel, .sentinel, .widerDeep, .sentinel, .sentinel], laidTests := true, laidLooks := .later }
def CountsUptoCardSaid : Prop := Claim7.holds Tryz.pinned (.plain (OpenSpec.upto countsSpec)) countsUptoCard
end Rows
end Go.Proofs.YtodkkholbjeioaaGreatDoor

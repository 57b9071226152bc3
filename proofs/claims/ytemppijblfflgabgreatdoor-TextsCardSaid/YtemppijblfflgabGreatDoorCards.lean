/-
  DERIVED. GIVEN WITH THE SEED: THE CARDS: each row of YtemppijblfflgabGreatDoorRows.lean that lists a variable, with what it lists TIED to the program's text (the seventh form; the later family's looks); each row that meets fmt, with fmt's text TOLD by the authors' own Lean function (tested against real Go, not proved from fmt's source: count such statements apart). THE CARD IS WHAT COUNTS. Prove the row's statement (the work); the ties are given (YtemppijblfflgabGreatDoorTie.lean); close each card by the builder's one call (the guide's Derived/Test/ToyasCard.lean, 'card_holds'). Laid BY PROGRAM, IN A SANDBOX (cutbox-door.mjs). By AI agents, Wed Nov 11 2026. No macro, syntax, notation, axiom, sorry.
-/
import Derived.Test.YtemppijblfflgabGreatDoorRows
import GoSem.ClaimSeven
namespace Go.Proofs.YtemppijblfflgabGreatDoor
namespace Rows

/-- THE TIED CARD OF 'evictorlaw.Loads'. -/
def loadsCard : Claim7 := { stood := { row := loadsRow, standIns := [], harness := (true, "9b8976626db2183e7fcdce4f07c1fd85f759e913f1fd1285ac2060aaddf41f3e"), looks := true }, kinds := [], alts := [], laidByText := true, laidKinds := [.data, .data, .data, .data, .handle, .sentinel, .sentinel, .sentinel, .sentinel, .sentinel, .sentinel, .sentinel, .sentinel, .sentinel, .sentinel, .sentinel, .sentinel, .widerDeep, .sentinel, .sentinel], laidTests := true, laidLooks := .later }
def LoadsCardSaid : Prop := Claim7.holds Tryz.pinned (.plain (OpenSpec.ofChange loadsSpec)) loadsCard

/-- THE TIED CARD OF 'evictorlaw.Texts'. -/
def textsCard : Claim7 := { stood := { row := textsRow, standIns := [], harness := (true, "9b8976626db2183e7fcdce4f07c1fd85f759e913f1fd1285ac2060aaddf41f3e"), looks := true }, kinds := [], alts := [], laidByText := true, laidKinds := [.data, .data, .data, .data, .handle, .sentinel, .sentinel, .sentinel, .sentinel, .sentinel, .sentinel, .sentinel, .sentinel, .sentinel, .sentinel, .sentinel, .sentinel, .widerDeep, .sentinel, .sentinel], laidTests := true, laidLooks := .later }
def TextsCardSaid : Prop := Claim7.holds Tryz.pinned (.plain (OpenSpec.ofChange textsSpec)) textsCard

/-- THE TIED CARD OF 'evictorlaw.Accesses'. -/
def accessesCard : Claim7 := { stood := { row := accessesRow, standIns := [], harness := (true, "9b8976626db2183e7fcdce4f07c1fd85f759e913f1fd1285ac2060aaddf41f3e"), looks := true }, kinds := [], alts := [], laidByText := true, laidKinds := [.data, .data, .data, .data, .handle, .sentinel, .sentinel, .sentinel, .sentinel, .sentinel, .sentinel, .sentinel, .sentinel, .sentinel, .sentinel, .sentinel, .sentinel, .widerDeep, .sentinel, .sentinel], laidTests := true, laidLooks := .later }
def AccessesCardSaid : Prop := Claim7.holds Tryz.pinned (.plain (OpenSpec.ofChange accessesSpec)) accessesCard

/-- THE TIED CARD OF 'evictorlaw.Removes'. -/
def removesCard : Claim7 := { stood := { row := removesRow, standIns := [], harness := (true, "9b8976626db2183e7fcdce4f07c1fd85f759e913f1fd1285ac2060aaddf41f3e"), looks := true }, kinds := [], alts := [], laidByText := true, laidKinds := [.data, .data, .data, .data, .handle, .sentinel, .sentinel, .sentinel, .sentinel, .sentinel, .sentinel, .sentinel, .sentinel, .sentinel, .sentinel, .sentinel, .sentinel, .widerDeep, .sentinel, .sentinel], laidTests := true, laidLooks := .later }
def RemovesCardSaid : Prop := Claim7.holds Tryz.pinned (.plain (OpenSpec.ofChange removesSpec)) removesCard

/-- THE TIED CARD OF 'evictorlaw.Keys'. -/
def keysCard : Claim7 := { stood := { row := keysRow, standIns := [], harness := (true, "9b8976626db2183e7fcdce4f07c1fd85f759e913f1fd1285ac2060aaddf41f3e"), looks := true }, kinds := [], alts := [], laidByText := true, laidKinds := [.data, .data, .data, .data, .handle, .sentinel, .sentinel, .sentinel, .sentinel, .sentinel, .sentinel, .sentinel, .sentinel, .sentinel, .sentinel, .sentinel, .sentinel, .widerDeep, .sentinel, .sentinel], laidTests := true, laidLooks := .later }
def KeysCardSaid : Prop := Claim7.holds Tryz.pinned (.plain (OpenSpec.ofChange keysSpec)) keysCard

/-- THE TIED CARD OF 'evictorlaw.Values'. -/
def valuesCard : Claim7 := { stood := { row := valuesRow, standIns := [], harness := (true, "9b8976626db2183e7fcdce4f07c1fd85f759e913f1fd1285ac2060aaddf41f3e"), looks := true }, kinds := [], alts := [], laidByText := true, laidKinds := [.data, .data, .data, .data, .handle, .sentinel, .sentinel, .sentinel, .sentinel, .sentinel, .sentinel, .sentinel, .sentinel, .sentinel, .sentinel, .sentinel, .sentinel, .widerDeep, .sentinel, .sentinel], laidTests := true, laidLooks := .later }
def ValuesCardSaid : Prop := Claim7.holds Tryz.pinned (.plain (OpenSpec.ofChange valuesSpec)) valuesCard

/-- THE TIED CARD OF 'evictorlaw.Counts'. -/
def countsCard : Claim7 := { stood := { row := countsRow, standIns := [], harness := (true, "9b8976626db2183e7fcdce4f07c1fd85f759e913f1fd1285ac2060aaddf41f3e"), looks := true }, kinds := [], alts := [], laidByText := true, laidKinds := [.data, .data, .data, .data, .handle, .sentinel, .sentinel, .sentinel, .sentinel, .sentinel, .sentinel, .sentinel, .sentinel, .sentinel, .sentinel, .sentinel, .sentinel, .widerDeep, .sentinel, .sentinel], laidTests := true, laidLooks := .later }
def CountsCardSaid : Prop := Claim7.holds Tryz.pinned (.plain (OpenSpec.ofChange countsSpec)) countsCard

/-- THE SECOND FORM's CARD OF 'evictorlaw.Loads'. -/
def loadsUptoCard : Claim7 := { stood := { row := loadsUptoRow, standIns := [], harness := (true, "9b8976626db2183e7fcdce4f07c1fd85f759e913f1fd1285ac2060aaddf41f3e"), looks := true }, kinds := [], alts := [], laidByText := true, laidKinds := [.data, .data, .data, .data, .handle, .sentinel, .sentinel, .sentinel, .sentinel, .sentinel, .sentinel, .sentinel, .sentinel, .sentinel, .sentinel, .sentinel, .sentinel, .widerDeep, .sentinel, .sentinel], laidTests := true, laidLooks := .later }
def LoadsUptoCardSaid : Prop := Claim7.holds Tryz.pinned (.plain (OpenSpec.upto loadsSpec)) loadsUptoCard

/-- THE SECOND FORM's CARD OF 'evictorlaw.Texts'. -/
def textsUptoCard : Claim7 := { stood := { row := textsUptoRow, standIns := [], harness := (true, "9b8976626db2183e7fcdce4f07c1fd85f759e913f1fd1285ac2060aaddf41f3e"), looks := true }, kinds := [], alts := [], laidByText := true, laidKinds := [.data, .data, .data, .data, .handle, .sentinel, .sentinel, .sentinel, .sentinel, .sentinel, .sentinel, .sentinel, .sentinel, .sentinel, .sentinel, .sentinel, .sentinel, .widerDeep, .sentinel, .sentinel], laidTests := true, laidLooks := .later }
def TextsUptoCardSaid : Prop := Claim7.holds Tryz.pinned (.plain (OpenSpec.upto textsSpec)) textsUptoCard

/-- THE SECOND FORM's CARD OF 'evictorlaw.Accesses'. -/
def accessesUptoCard : Claim7 := { stood := { row := accessesUptoRow, standIns := [], harness := (true, "9b8976626db2183e7fcdce4f07c1fd85f759e913f1fd1285ac2060aaddf41f3e"), looks := true }, kinds := [], alts := [], laidByText := true, laidKinds := [.data, .data, .data, .data, .handle, .sentinel, .sentinel, .sentinel, .sentinel, .sentinel, .sentinel, .sentinel, .sentinel, .sentinel, .sentinel, .sentinel, .sentinel, .widerDeep, .sentinel, .sentinel], laidTests := true, laidLooks := .later }
def AccessesUptoCardSaid : Prop := Claim7.holds Tryz.pinned (.plain (OpenSpec.upto accessesSpec)) accessesUptoCard

/-- THE SECOND FORM's CARD OF 'evictorlaw.Removes'. -/
def removesUptoCard : Claim7 := { stood := { row := removesUptoRow, standIns := [], harness := (true, "9b8976626db2183e7fcdce4f07c1fd85f759e913f1fd1285ac2060aaddf41f3e"), looks := true }, kinds := [], alts := [], laidByText := true, laidKinds := [.data, .data, .data, .data, .handle, .sentinel, .sentinel, .sentinel, .sentinel, .sentinel, .sentinel, .sentinel, .sentinel, .sentinel, .sentinel, .sentinel, .sentinel, .widerDeep, .sentinel, .sentinel], laidTests := true, laidLooks := .later }
def RemovesUptoCardSaid : Prop := Claim7.holds Tryz.pinned (.plain (OpenSpec.upto removesSpec)) removesUptoCard

/-- THE SECOND FORM's CARD OF 'evictorlaw.Keys'. -/
def keysUptoCard : Claim7 := { stood := { row := keysUptoRow, standIns := [], harness := (true, "9b8976626db2183e7fcdce4f07c1fd85f759e913f1fd1285ac2060aaddf41f3e"), looks := true }, kinds := [], alts := [], laidByText := true, laidKinds := [.data, .data, .data, .data, .handle, .sentinel, .sentinel, .sentinel, .sentinel, .sentinel, .sentinel, .sentinel, .sentinel, .sentinel, .sentinel, .sentinel, .sentinel, .widerDeep, .sentinel, .sentinel], laidTests := true, laidLooks := .later }
def KeysUptoCardSaid : Prop := Claim7.holds Tryz.pinned (.plain (OpenSpec.upto keysSpec)) keysUptoCard

/-- THE SECOND FORM's CARD OF 'evictorlaw.Values'. -/
def valuesUptoCard : Claim7 := { stood := { row := valuesUptoRow, standIns := [], harness := (true, "9b8976626db2183e7fcdce4f07c1fd85f759e913f1fd1285ac2060aaddf41f3e"), looks := true }, kinds := [], alts := [], laidByText := true, laidKinds := [.data, .data, .data, .data, .handle, .sentinel, .sentinel, .sentinel, .sentinel, .sentinel, .sentinel, .sentinel, .sentinel, .sentinel, .sentinel, .sentinel, .sentinel, .widerDeep, .sentinel, .sentinel], laidTests := true, laidLooks := .later }
def ValuesUptoCardSaid : Prop := Claim7.holds Tryz.pinned (.plain (OpenSpec.upto valuesSpec)) valuesUptoCard

/-- THE SECOND FORM's CARD OF 'evictorlaw.Counts'. -/
def countsUptoCard : Claim7 := { stood := { row := countsUptoRow, standIns := [], harness := (true, "9b8976626db2183e7fcdce4f07c1fd85f759e913f1fd1285ac2060aaddf41f3e"), looks := true }, kinds := [], alts := [], laidByText := true, laidKinds := [.data, .data, .data, .data, .handle, .sentinel, .sentinel, .sentinel, .sentinel, .sentinel, .sentinel, .sentinel, .sentinel, .sentinel, .sentinel, .sentinel, .sentinel, .widerDeep, .sentinel, .sentinel], laidTests := true, laidLooks := .later }
def CountsUptoCardSaid : Prop := Claim7.holds Tryz.pinned (.plain (OpenSpec.upto countsSpec)) countsUptoCard
end Rows
end Go.Proofs.YtemppijblfflgabGreatDoor

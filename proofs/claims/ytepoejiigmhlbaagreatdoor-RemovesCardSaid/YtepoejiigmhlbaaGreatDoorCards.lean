/-
  DERIVED. GIVEN WITH THE SEED: THE CARDS: each row of YtepoejiigmhlbaaGreatDoorRows.lean that lists a variable, with what it lists TIED to the program's text (the seventh form; the later family's looks); each row that meets fmt, with fmt's text TOLD by the authors' own Lean function (tested against real Go, not proved from fmt's source: count such statements apart). THE CARD IS WHAT COUNTS. Prove the row's statement (the work); the ties are given (YtepoejiigmhlbaaGreatDoorTie.lean); close each card by the builder's one call (the guide's Derived/Test/ToyasCard.lean, 'card_holds'). Laid BY PROGRAM, IN A SANDBOX (cutbox-door.mjs). By AI agents, Wed Nov 11 2026. No macro, syntax, notation, axiom, sorry.
-/
import Derived.Test.YtepoejiigmhlbaaGreatDoorRows
import GoSem.ClaimSeven
namespace Go.Proofs.YtepoejiigmhlbaaGreatDoor
namespace Rows

/-- THE TIED CARD OF 'evictorkeep.Conserved'. -/
def conservedCard : Claim7 := { stood := { row := conservedRow, standIns := [], harness := (true, "c48d12243d1974ea46e13bfe69681f2a847ea403c405c0b0b2c5743508e8b9b5"), looks := true }, kinds := [], alts := [], laidByText := true, laidKinds := [.data, .data, .data, .handle, .sentinel, .sentinel, .sentinel, .sentinel, .sentinel, .sentinel, .sentinel, .sentinel, .sentinel, .sentinel, .sentinel, .sentinel, .widerDeep, .sentinel, .sentinel], laidTests := true, laidLooks := .later }
def ConservedCardSaid : Prop := Claim7.holds Tryz.pinned (.plain (OpenSpec.ofChange conservedSpec)) conservedCard

/-- THE TIED CARD OF 'evictorlaw.Accesses'. -/
def accessesCard : Claim7 := { stood := { row := accessesRow, standIns := [], harness := (true, "c48d12243d1974ea46e13bfe69681f2a847ea403c405c0b0b2c5743508e8b9b5"), looks := true }, kinds := [], alts := [], laidByText := true, laidKinds := [.data, .data, .data, .data, .handle, .sentinel, .sentinel, .sentinel, .sentinel, .sentinel, .sentinel, .sentinel, .sentinel, .sentinel, .sentinel, .sentinel, .sentinel, .widerDeep, .sentinel, .sentinel], laidTests := true, laidLooks := .later }
def AccessesCardSaid : Prop := Claim7.holds Tryz.pinned (.plain (OpenSpec.ofChange accessesSpec)) accessesCard

/-- THE TIED CARD OF 'evictorlaw.Removes'. -/
def removesCard : Claim7 := { stood := { row := removesRow, standIns := [], harness := (true, "c48d12243d1974ea46e13bfe69681f2a847ea403c405c0b0b2c5743508e8b9b5"), looks := true }, kinds := [], alts := [], laidByText := true, laidKinds := [.data, .data, .data, .data, .handle, .sentinel, .sentinel, .sentinel, .sentinel, .sentinel, .sentinel, .sentinel, .sentinel, .sentinel, .sentinel, .sentinel, .sentinel, .widerDeep, .sentinel, .sentinel], laidTests := true, laidLooks := .later }
def RemovesCardSaid : Prop := Claim7.holds Tryz.pinned (.plain (OpenSpec.ofChange removesSpec)) removesCard

/-- THE SECOND FORM's CARD OF 'evictorkeep.Conserved'. -/
def conservedUptoCard : Claim7 := { stood := { row := conservedUptoRow, standIns := [], harness := (true, "c48d12243d1974ea46e13bfe69681f2a847ea403c405c0b0b2c5743508e8b9b5"), looks := true }, kinds := [], alts := [], laidByText := true, laidKinds := [.data, .data, .data, .handle, .sentinel, .sentinel, .sentinel, .sentinel, .sentinel, .sentinel, .sentinel, .sentinel, .sentinel, .sentinel, .sentinel, .sentinel, .widerDeep, .sentinel, .sentinel], laidTests := true, laidLooks := .later }
def ConservedUptoCardSaid : Prop := Claim7.holds Tryz.pinned (.plain (OpenSpec.upto conservedSpec)) conservedUptoCard

/-- THE SECOND FORM's CARD OF 'evictorlaw.Accesses'. -/
def accessesUptoCard : Claim7 := { stood := { row := accessesUptoRow, standIns := [], harness := (true, "c48d12243d1974ea46e13bfe69681f2a847ea403c405c0b0b2c5743508e8b9b5"), looks := true }, kinds := [], alts := [], laidByText := true, laidKinds := [.data, .data, .data, .data, .handle, .sentinel, .sentinel, .sentinel, .sentinel, .sentinel, .sentinel, .sentinel, .sentinel, .sentinel, .sentinel, .sentinel, .sentinel, .widerDeep, .sentinel, .sentinel], laidTests := true, laidLooks := .later }
def AccessesUptoCardSaid : Prop := Claim7.holds Tryz.pinned (.plain (OpenSpec.upto accessesSpec)) accessesUptoCard

/-- THE SECOND FORM's CARD OF 'evictorlaw.Removes'. -/
def removesUptoCard : Claim7 := { stood := { row := removesUptoRow, standIns := [], harness := (true, "c48d12243d1974ea46e13bfe69681f2a847ea403c405c0b0b2c5743508e8b9b5"), looks := true }, kinds := [], alts := [], laidByText := true, laidKinds := [.data, .data, .data, .data, .handle, .sentinel, .sentinel, .sentinel, .sentinel, .sentinel, .sentinel, .sentinel, .sentinel, .sentinel, .sentinel, .sentinel, .sentinel, .widerDeep, .sentinel, .sentinel], laidTests := true, laidLooks := .later }
def RemovesUptoCardSaid : Prop := Claim7.holds Tryz.pinned (.plain (OpenSpec.upto removesSpec)) removesUptoCard
end Rows
end Go.Proofs.YtepoejiigmhlbaaGreatDoor

/-
  DERIVED. GIVEN WITH THE SEED: THE CARDS: each row of YtemppijblfflgaaDoorRows.lean that lists a variable, with what it lists TIED to the program's text (the seventh form; the later family's looks); each row that meets fmt, with fmt's text TOLD by the authors' own Lean function (tested against real Go, not proved from fmt's source: count such statements apart). THE CARD IS WHAT COUNTS. Prove the row's statement (the work); the ties are given (YtemppijblfflgaaDoorTie.lean); close each card by the builder's one call (the guide's Derived/Test/ToyasCard.lean, 'card_holds'). Laid BY PROGRAM, IN A SANDBOX (cutbox-door.mjs). By AI agents, Wed Nov 11 2026. No macro, syntax, notation, axiom, sorry.
-/
import Derived.Test.YtemppijblfflgaaDoorRows
import GoSem.ClaimSeven
namespace Go.Proofs.YtemppijblfflgaaDoor
namespace Rows

/-- THE TIED CARD OF 'evictorkeep.Refuses'. -/
def refusesCard : Claim7 := { stood := { row := refusesRow, standIns := [], harness := (true, "9d50bbe53f20add4b52d5ec0a899d7350e5dac09d84ae9e5b0e2efd6c6db5810"), looks := true }, kinds := [], alts := [], laidByText := true, laidKinds := [.data, .data, .data, .handle, .sentinel, .sentinel, .sentinel, .sentinel, .sentinel, .sentinel, .sentinel, .sentinel, .sentinel, .sentinel, .sentinel, .sentinel, .widerDeep, .sentinel, .sentinel], laidTests := true, laidLooks := .later }
def RefusesCardSaid : Prop := Claim7.holds Tryd.pinned (.plain (OpenSpec.ofChange refusesSpec)) refusesCard

/-- THE SECOND FORM's CARD OF 'evictorkeep.Refuses'. -/
def refusesUptoCard : Claim7 := { stood := { row := refusesUptoRow, standIns := [], harness := (true, "9d50bbe53f20add4b52d5ec0a899d7350e5dac09d84ae9e5b0e2efd6c6db5810"), looks := true }, kinds := [], alts := [], laidByText := true, laidKinds := [.data, .data, .data, .handle, .sentinel, .sentinel, .sentinel, .sentinel, .sentinel, .sentinel, .sentinel, .sentinel, .sentinel, .sentinel, .sentinel, .sentinel, .widerDeep, .sentinel, .sentinel], laidTests := true, laidLooks := .later }
def RefusesUptoCardSaid : Prop := Claim7.holds Tryd.pinned (.plain (OpenSpec.upto refusesSpec)) refusesUptoCard
end Rows
end Go.Proofs.YtemppijblfflgaaDoor

/-
  DERIVED. GIVEN WITH THE SEED: THE CARDS: each row of YtemppijblfflgaaGreatDoorRows.lean that lists a variable, with what it lists TIED to the program's text (the seventh form; the later family's looks); each row that meets fmt, with fmt's text TOLD by the authors' own Lean function (tested against real Go, not proved from fmt's source: count such statements apart). THE CARD IS WHAT COUNTS. Prove the row's statement (the work); the ties are given (YtemppijblfflgaaGreatDoorTie.lean); close each card by the builder's one call (the guide's Derived/Test/ToyasCard.lean, 'card_holds'). Laid BY PROGRAM, IN A SANDBOX (cutbox-door.mjs). By AI agents, Wed Nov 11 2026. No macro, syntax, notation, axiom, sorry.
-/
import Derived.Test.YtemppijblfflgaaGreatDoorRows
import GoSem.ClaimSeven
namespace Go.Proofs.YtemppijblfflgaaGreatDoor
namespace Rows

/-- THE TIED CARD OF 'evictorkeep.Fifo'. -/
def fifoCard : Claim7 := { stood := { row := fifoRow, standIns := [], harness := (true, "dbf82faa7ad74513cdcbbbe898ca1eac392cb9f1d4d31e54429a31396ff4341a"), looks := true }, kinds := [], alts := [], laidByText := true, laidKinds := [.data, .data, .data, .handle, .sentinel, .sentinel, .sentinel, .sentinel, .sentinel, .sentinel, .sentinel, .sentinel, .sentinel, .sentinel, .sentinel, .sentinel, .widerDeep, .sentinel, .sentinel], laidTests := true, laidLooks := .later }
def FifoCardSaid : Prop := Claim7.holds Tryz.pinned (.plain (OpenSpec.ofChange fifoSpec)) fifoCard

/-- THE TIED CARD OF 'evictorkeep.Lru'. -/
def lruCard : Claim7 := { stood := { row := lruRow, standIns := [], harness := (true, "dbf82faa7ad74513cdcbbbe898ca1eac392cb9f1d4d31e54429a31396ff4341a"), looks := true }, kinds := [], alts := [], laidByText := true, laidKinds := [.data, .data, .data, .handle, .sentinel, .sentinel, .sentinel, .sentinel, .sentinel, .sentinel, .sentinel, .sentinel, .sentinel, .sentinel, .sentinel, .sentinel, .widerDeep, .sentinel, .sentinel], laidTests := true, laidLooks := .later }
def LruCardSaid : Prop := Claim7.holds Tryz.pinned (.plain (OpenSpec.ofChange lruSpec)) lruCard

/-- THE TIED CARD OF 'evictorlaw.Owned'. -/
def ownedCard : Claim7 := { stood := { row := ownedRow, standIns := [], harness := (true, "dbf82faa7ad74513cdcbbbe898ca1eac392cb9f1d4d31e54429a31396ff4341a"), looks := true }, kinds := [], alts := [], laidByText := true, laidKinds := [.data, .data, .data, .data, .handle, .sentinel, .sentinel, .sentinel, .sentinel, .sentinel, .sentinel, .sentinel, .sentinel, .sentinel, .sentinel, .sentinel, .sentinel, .widerDeep, .sentinel, .sentinel], laidTests := true, laidLooks := .later }
def OwnedCardSaid : Prop := Claim7.holds Tryz.pinned (.plain (OpenSpec.ofChange ownedSpec)) ownedCard

/-- THE TIED CARD OF 'evictorkeep.Clock'. -/
def clockCard : Claim7 := { stood := { row := clockRow, standIns := [], harness := (true, "dbf82faa7ad74513cdcbbbe898ca1eac392cb9f1d4d31e54429a31396ff4341a"), looks := true }, kinds := [], alts := [], laidByText := true, laidKinds := [.data, .data, .data, .handle, .sentinel, .sentinel, .sentinel, .sentinel, .sentinel, .sentinel, .sentinel, .sentinel, .sentinel, .sentinel, .sentinel, .sentinel, .widerDeep, .sentinel, .sentinel], laidTests := true, laidLooks := .later }
def ClockCardSaid : Prop := Claim7.holds Tryz.pinned (.plain (OpenSpec.ofChange clockSpec)) clockCard

/-- THE TIED CARD OF 'evictorlaw.All'. -/
def allCard : Claim7 := { stood := { row := allRow, standIns := [], harness := (true, "dbf82faa7ad74513cdcbbbe898ca1eac392cb9f1d4d31e54429a31396ff4341a"), looks := true }, kinds := [], alts := [], laidByText := true, laidKinds := [.data, .data, .data, .data, .handle, .sentinel, .sentinel, .sentinel, .sentinel, .sentinel, .sentinel, .sentinel, .sentinel, .sentinel, .sentinel, .sentinel, .sentinel, .widerDeep, .sentinel, .sentinel], laidTests := true, laidLooks := .later }
def AllCardSaid : Prop := Claim7.holds Tryz.pinned (.plain (OpenSpec.ofChange allSpec)) allCard

/-- THE TIED CARD OF 'evictorkeep.TwoQueues'. -/
def twoQueuesCard : Claim7 := { stood := { row := twoQueuesRow, standIns := [], harness := (true, "dbf82faa7ad74513cdcbbbe898ca1eac392cb9f1d4d31e54429a31396ff4341a"), looks := true }, kinds := [], alts := [], laidByText := true, laidKinds := [.data, .data, .data, .handle, .sentinel, .sentinel, .sentinel, .sentinel, .sentinel, .sentinel, .sentinel, .sentinel, .sentinel, .sentinel, .sentinel, .sentinel, .widerDeep, .sentinel, .sentinel], laidTests := true, laidLooks := .later }
def TwoQueuesCardSaid : Prop := Claim7.holds Tryz.pinned (.plain (OpenSpec.ofChange twoQueuesSpec)) twoQueuesCard

/-- THE TIED CARD OF 'evictorkeep.Saturates'. -/
def saturatesCard : Claim7 := { stood := { row := saturatesRow, standIns := [], harness := (true, "dbf82faa7ad74513cdcbbbe898ca1eac392cb9f1d4d31e54429a31396ff4341a"), looks := true }, kinds := [], alts := [], laidByText := true, laidKinds := [.data, .data, .data, .handle, .sentinel, .sentinel, .sentinel, .sentinel, .sentinel, .sentinel, .sentinel, .sentinel, .sentinel, .sentinel, .sentinel, .sentinel, .widerDeep, .sentinel, .sentinel], laidTests := true, laidLooks := .later }
def SaturatesCardSaid : Prop := Claim7.holds Tryz.pinned (.plain (OpenSpec.ofChange saturatesSpec)) saturatesCard

/-- THE TIED CARD OF 'evictorkeep.Known'. -/
def knownCard : Claim7 := { stood := { row := knownRow, standIns := [], harness := (true, "dbf82faa7ad74513cdcbbbe898ca1eac392cb9f1d4d31e54429a31396ff4341a"), looks := true }, kinds := [], alts := [], laidByText := true, laidKinds := [.data, .data, .data, .handle, .sentinel, .sentinel, .sentinel, .sentinel, .sentinel, .sentinel, .sentinel, .sentinel, .sentinel, .sentinel, .sentinel, .sentinel, .widerDeep, .sentinel, .sentinel], laidTests := true, laidLooks := .later }
def KnownCardSaid : Prop := Claim7.holds Tryz.pinned (.plain (OpenSpec.ofChange knownSpec)) knownCard

/-- THE TIED CARD OF 'evictorlaw.Again'. -/
def againCard : Claim7 := { stood := { row := againRow, standIns := [], harness := (true, "dbf82faa7ad74513cdcbbbe898ca1eac392cb9f1d4d31e54429a31396ff4341a"), looks := true }, kinds := [], alts := [], laidByText := true, laidKinds := [.data, .data, .data, .data, .handle, .sentinel, .sentinel, .sentinel, .sentinel, .sentinel, .sentinel, .sentinel, .sentinel, .sentinel, .sentinel, .sentinel, .sentinel, .widerDeep, .sentinel, .sentinel], laidTests := true, laidLooks := .later }
def AgainCardSaid : Prop := Claim7.holds Tryz.pinned (.plain (OpenSpec.ofChange againSpec)) againCard

/-- THE TIED CARD OF 'evictorkeep.Conserved'. -/
def conservedCard : Claim7 := { stood := { row := conservedRow, standIns := [], harness := (true, "dbf82faa7ad74513cdcbbbe898ca1eac392cb9f1d4d31e54429a31396ff4341a"), looks := true }, kinds := [], alts := [], laidByText := true, laidKinds := [.data, .data, .data, .handle, .sentinel, .sentinel, .sentinel, .sentinel, .sentinel, .sentinel, .sentinel, .sentinel, .sentinel, .sentinel, .sentinel, .sentinel, .widerDeep, .sentinel, .sentinel], laidTests := true, laidLooks := .later }
def ConservedCardSaid : Prop := Claim7.holds Tryz.pinned (.plain (OpenSpec.ofChange conservedSpec)) conservedCard

/-- THE SECOND FORM's CARD OF 'evictorkeep.Fifo'. -/
def fifoUptoCard : Claim7 := { stood := { row := fifoUptoRow, standIns := [], harness := (true, "dbf82faa7ad74513cdcbbbe898ca1eac392cb9f1d4d31e54429a31396ff4341a"), looks := true }, kinds := [], alts := [], laidByText := true, laidKinds := [.data, .data, .data, .handle, .sentinel, .sentinel, .sentinel, .sentinel, .sentinel, .sentinel, .sentinel, .sentinel, .sentinel, .sentinel, .sentinel, .sentinel, .widerDeep, .sentinel, .sentinel], laidTests := true, laidLooks := .later }
def FifoUptoCardSaid : Prop := Claim7.holds Tryz.pinned (.plain (OpenSpec.upto fifoSpec)) fifoUptoCard

/-- THE SECOND FORM's CARD OF 'evictorkeep.Lru'. -/
def lruUptoCard : Claim7 := { stood := { row := lruUptoRow, standIns := [], harness := (true, "dbf82faa7ad74513cdcbbbe898ca1eac392cb9f1d4d31e54429a31396ff4341a"), looks := true }, kinds := [], alts := [], laidByText := true, laidKinds := [.data, .data, .data, .handle, .sentinel, .sentinel, .sentinel, .sentinel, .sentinel, .sentinel, .sentinel, .sentinel, .sentinel, .sentinel, .sentinel, .sentinel, .widerDeep, .sentinel, .sentinel], laidTests := true, laidLooks := .later }
def LruUptoCardSaid : Prop := Claim7.holds Tryz.pinned (.plain (OpenSpec.upto lruSpec)) lruUptoCard

/-- THE SECOND FORM's CARD OF 'evictorlaw.Owned'. -/
def ownedUptoCard : Claim7 := { stood := { row := ownedUptoRow, standIns := [], harness := (true, "dbf82faa7ad74513cdcbbbe898ca1eac392cb9f1d4d31e54429a31396ff4341a"), looks := true }, kinds := [], alts := [], laidByText := true, laidKinds := [.data, .data, .data, .data, .handle, .sentinel, .sentinel, .sentinel, .sentinel, .sentinel, .sentinel, .sentinel, .sentinel, .sentinel, .sentinel, .sentinel, .sentinel, .widerDeep, .sentinel, .sentinel], laidTests := true, laidLooks := .later }
def OwnedUptoCardSaid : Prop := Claim7.holds Tryz.pinned (.plain (OpenSpec.upto ownedSpec)) ownedUptoCard

/-- THE SECOND FORM's CARD OF 'evictorkeep.Clock'. -/
def clockUptoCard : Claim7 := { stood := { row := clockUptoRow, standIns := [], harness := (true, "dbf82faa7ad74513cdcbbbe898ca1eac392cb9f1d4d31e54429a31396ff4341a"), looks := true }, kinds := [], alts := [], laidByText := true, laidKinds := [.data, .data, .data, .handle, .sentinel, .sentinel, .sentinel, .sentinel, .sentinel, .sentinel, .sentinel, .sentinel, .sentinel, .sentinel, .sentinel, .sentinel, .widerDeep, .sentinel, .sentinel], laidTests := true, laidLooks := .later }
def ClockUptoCardSaid : Prop := Claim7.holds Tryz.pinned (.plain (OpenSpec.upto clockSpec)) clockUptoCard

/-- THE SECOND FORM's CARD OF 'evictorlaw.All'. -/
def allUptoCard : Claim7 := { stood := { row := allUptoRow, standIns := [], harness := (true, "dbf82faa7ad74513cdcbbbe898ca1eac392cb9f1d4d31e54429a31396ff4341a"), looks := true }, kinds := [], alts := [], laidByText := true, laidKinds := [.data, .data, .data, .data, .handle, .sentinel, .sentinel, .sentinel, .sentinel, .sentinel, .sentinel, .sentinel, .sentinel, .sentinel, .sentinel, .sentinel, .sentinel, .widerDeep, .sentinel, .sentinel], laidTests := true, laidLooks := .later }
def AllUptoCardSaid : Prop := Claim7.holds Tryz.pinned (.plain (OpenSpec.upto allSpec)) allUptoCard

/-- THE SECOND FORM's CARD OF 'evictorkeep.TwoQueues'. -/
def twoQueuesUptoCard : Claim7 := { stood := { row := twoQueuesUptoRow, standIns := [], harness := (true, "dbf82faa7ad74513cdcbbbe898ca1eac392cb9f1d4d31e54429a31396ff4341a"), looks := true }, kinds := [], alts := [], laidByText := true, laidKinds := [.data, .data, .data, .handle, .sentinel, .sentinel, .sentinel, .sentinel, .sentinel, .sentinel, .sentinel, .sentinel, .sentinel, .sentinel, .sentinel, .sentinel, .widerDeep, .sentinel, .sentinel], laidTests := true, laidLooks := .later }
def TwoQueuesUptoCardSaid : Prop := Claim7.holds Tryz.pinned (.plain (OpenSpec.upto twoQueuesSpec)) twoQueuesUptoCard

/-- THE SECOND FORM's CARD OF 'evictorkeep.Saturates'. -/
def saturatesUptoCard : Claim7 := { stood := { row := saturatesUptoRow, standIns := [], harness := (true, "dbf82faa7ad74513cdcbbbe898ca1eac392cb9f1d4d31e54429a31396ff4341a"), looks := true }, kinds := [], alts := [], laidByText := true, laidKinds := [.data, .data, .data, .handle, .sentinel, .sentinel, .sentinel, .sentinel, .sentinel, .sentinel, .sentinel, .sentinel, .sentinel, .sentinel, .sentinel, .sentinel, .widerDeep, .sentinel, .sentinel], laidTests := true, laidLooks := .later }
def SaturatesUptoCardSaid : Prop := Claim7.holds Tryz.pinned (.plain (OpenSpec.upto saturatesSpec)) saturatesUptoCard

/-- THE SECOND FORM's CARD OF 'evictorkeep.Known'. -/
def knownUptoCard : Claim7 := { stood := { row := knownUptoRow, standIns := [], harness := (true, "dbf82faa7ad74513cdcbbbe898ca1eac392cb9f1d4d31e54429a31396ff4341a"), looks := true }, kinds := [], alts := [], laidByText := true, laidKinds := [.data, .data, .data, .handle, .sentinel, .sentinel, .sentinel, .sentinel, .sentinel, .sentinel, .sentinel, .sentinel, .sentinel, .sentinel, .sentinel, .sentinel, .widerDeep, .sentinel, .sentinel], laidTests := true, laidLooks := .later }
def KnownUptoCardSaid : Prop := Claim7.holds Tryz.pinned (.plain (OpenSpec.upto knownSpec)) knownUptoCard

/-- THE SECOND FORM's CARD OF 'evictorlaw.Again'. -/
def againUptoCard : Claim7 := { stood := { row := againUptoRow, standIns := [], harness := (true, "dbf82faa7ad74513cdcbbbe898ca1eac392cb9f1d4d31e54429a31396ff4341a"), looks := true }, kinds := [], alts := [], laidByText := true, laidKinds := [.data, .data, .data, .data, .handle, .sentinel, .sentinel, .sentinel, .sentinel, .sentinel, .sentinel, .sentinel, .sentinel, .sentinel, .sentinel, .sentinel, .sentinel, .widerDeep, .sentinel, .sentinel], laidTests := true, laidLooks := .later }
def AgainUptoCardSaid : Prop := Claim7.holds Tryz.pinned (.plain (OpenSpec.upto againSpec)) againUptoCard

/-- THE SECOND FORM's CARD OF 'evictorkeep.Conserved'. -/
def conservedUptoCard : Claim7 := { stood := { row := conservedUptoRow, standIns := [], harness := (true, "dbf82faa7ad74513cdcbbbe898ca1eac392cb9f1d4d31e54429a31396ff4341a"), looks := true }, kinds := [], alts := [], laidByText := true, laidKinds := [.data, .data, .data, .handle, .sentinel, .sentinel, .sentinel, .sentinel, .sentinel, .sentinel, .sentinel, .sentinel, .sentinel, .sentinel, .sentinel, .sentinel, .widerDeep, .sentinel, .sentinel], laidTests := true, laidLooks := .later }
def ConservedUptoCardSaid : Prop := Claim7.holds Tryz.pinned (.plain (OpenSpec.upto conservedSpec)) conservedUptoCard
end Rows
end Go.Proofs.YtemppijblfflgaaGreatDoor

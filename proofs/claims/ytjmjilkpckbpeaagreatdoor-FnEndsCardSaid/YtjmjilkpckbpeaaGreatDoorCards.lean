/-
  DERIVED. GIVEN WITH THE SEED: THE CARDS: each row of YtjmjilkpckbpeaaGreatDoorRows.lean that lists a variable, with what it lists TIED to the program's text (the seventh form; the later family's looks); each row that meets fmt, with fmt's text TOLD by the authors' own Lean function (tested against real Go, not proved from fmt's source: count such statements apart). THE CARD IS WHAT COUNTS. Prove the row's statement (the work); the ties are given (YtjmjilkpckbpeaaGreatDoorTie.lean); close each card by the builder's one call (the guide's Derived/Test/ToyasCard.lean, 'card_holds'). Laid BY PROGRAM, IN A SANDBOX (cutbox-door.mjs). By AI agents, Wed Nov 11 2026. No macro, syntax, notation, axiom, sorry.
-/
import Derived.Test.YtjmjilkpckbpeaaGreatDoorRows
import GoSem.ClaimSeven
namespace Go.Proofs.YtjmjilkpckbpeaaGreatDoor
namespace Rows

/-- THE TIED CARD OF 'laws.FnRadio'. -/
def fnRadioCard : Claim7 := { stood := { row := fnRadioRow, standIns := [], harness := (true, "5e97b3ca83d103711ecc7a481f652731e15db4448e5565a41b98a6e1c5729e95"), looks := true }, kinds := [], alts := [], laidByText := true, laidKinds := [.data, .data, .data, .sentinel, .sentinel], laidTests := true, laidLooks := .later }
def FnRadioCardSaid : Prop := Claim7.holds Tryz.pinned (.plain (OpenSpec.ofChange fnRadioSpec)) fnRadioCard

/-- THE TIED CARD OF 'laws.FnEnds'. -/
def fnEndsCard : Claim7 := { stood := { row := fnEndsRow, standIns := [], harness := (true, "5e97b3ca83d103711ecc7a481f652731e15db4448e5565a41b98a6e1c5729e95"), looks := true }, kinds := [], alts := [], laidByText := true, laidKinds := [.data, .data, .data, .sentinel, .sentinel], laidTests := true, laidLooks := .later }
def FnEndsCardSaid : Prop := Claim7.holds Tryz.pinned (.plain (OpenSpec.ofChange fnEndsSpec)) fnEndsCard

/-- THE TIED CARD OF 'laws.FnReceived'. -/
def fnReceivedCard : Claim7 := { stood := { row := fnReceivedRow, standIns := [], harness := (true, "5e97b3ca83d103711ecc7a481f652731e15db4448e5565a41b98a6e1c5729e95"), looks := true }, kinds := [], alts := [], laidByText := true, laidKinds := [.data, .data, .data, .sentinel, .sentinel], laidTests := true, laidLooks := .later }
def FnReceivedCardSaid : Prop := Claim7.holds Tryz.pinned (.plain (OpenSpec.ofChange fnReceivedSpec)) fnReceivedCard

/-- THE SECOND FORM's CARD OF 'laws.FnRadio'. -/
def fnRadioUptoCard : Claim7 := { stood := { row := fnRadioUptoRow, standIns := [], harness := (true, "5e97b3ca83d103711ecc7a481f652731e15db4448e5565a41b98a6e1c5729e95"), looks := true }, kinds := [], alts := [], laidByText := true, laidKinds := [.data, .data, .data, .sentinel, .sentinel], laidTests := true, laidLooks := .later }
def FnRadioUptoCardSaid : Prop := Claim7.holds Tryz.pinned (.plain (OpenSpec.upto fnRadioSpec)) fnRadioUptoCard

/-- THE SECOND FORM's CARD OF 'laws.FnEnds'. -/
def fnEndsUptoCard : Claim7 := { stood := { row := fnEndsUptoRow, standIns := [], harness := (true, "5e97b3ca83d103711ecc7a481f652731e15db4448e5565a41b98a6e1c5729e95"), looks := true }, kinds := [], alts := [], laidByText := true, laidKinds := [.data, .data, .data, .sentinel, .sentinel], laidTests := true, laidLooks := .later }
def FnEndsUptoCardSaid : Prop := Claim7.holds Tryz.pinned (.plain (OpenSpec.upto fnEndsSpec)) fnEndsUptoCard

/-- THE SECOND FORM's CARD OF 'laws.FnReceived'. -/
def fnReceivedUptoCard : Claim7 := { stood := { row := fnReceivedUptoRow, standIns := [], harness := (true, "5e97b3ca83d103711ecc7a481f652731e15db4448e5565a41b98a6e1c5729e95"), looks := true }, kinds := [], alts := [], laidByText := true, laidKinds := [.data, .data, .data, .sentinel, .sentinel], laidTests := true, laidLooks := .later }
def FnReceivedUptoCardSaid : Prop := Claim7.holds Tryz.pinned (.plain (OpenSpec.upto fnReceivedSpec)) fnReceivedUptoCard
end Rows
end Go.Proofs.YtjmjilkpckbpeaaGreatDoor

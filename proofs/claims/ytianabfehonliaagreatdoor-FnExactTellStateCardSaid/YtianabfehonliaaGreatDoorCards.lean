/-
  DERIVED. GIVEN WITH THE SEED: THE CARDS: each row of YtianabfehonliaaGreatDoorRows.lean that lists a variable, with what it lists TIED to the program's text (the seventh form; the later family's looks); each row that meets fmt, with fmt's text TOLD by the authors' own Lean function (tested against real Go, not proved from fmt's source: count such statements apart). THE CARD IS WHAT COUNTS. Prove the row's statement (the work); the ties are given (YtianabfehonliaaGreatDoorTie.lean); close each card by the builder's one call (the guide's Derived/Test/ToyasCard.lean, 'card_holds'). Laid BY PROGRAM, IN A SANDBOX (cutbox-door.mjs). By AI agents, Wed Nov 11 2026. No macro, syntax, notation, axiom, sorry.
-/
import Derived.Test.YtianabfehonliaaGreatDoorRows
import GoSem.ClaimSeven
namespace Go.Proofs.YtianabfehonliaaGreatDoor
namespace Rows

/-- THE TIED CARD OF 'laws.FnExactBehindBy'. -/
def fnExactBehindByCard : Claim7 := { stood := { row := fnExactBehindByRow, standIns := [], harness := (true, "72ebe60491234a1bfdcd5689709a0993366026a1d7f104484294d97cf5ca0b20"), looks := true }, kinds := [], alts := [], laidByText := true, laidKinds := [.data, .data, .data, .sentinel, .sentinel], laidTests := true, laidLooks := .later }
def FnExactBehindByCardSaid : Prop := Claim7.holds Tryz.pinned (.plain (OpenSpec.ofChange fnExactBehindBySpec)) fnExactBehindByCard

/-- THE TIED CARD OF 'laws.FnExactRoomView'. -/
def fnExactRoomViewCard : Claim7 := { stood := { row := fnExactRoomViewRow, standIns := [], harness := (true, "72ebe60491234a1bfdcd5689709a0993366026a1d7f104484294d97cf5ca0b20"), looks := true }, kinds := [], alts := [], laidByText := true, laidKinds := [.data, .data, .data, .sentinel, .sentinel], laidTests := true, laidLooks := .later }
def FnExactRoomViewCardSaid : Prop := Claim7.holds Tryz.pinned (.plain (OpenSpec.ofChange fnExactRoomViewSpec)) fnExactRoomViewCard

/-- THE TIED CARD OF 'laws.FnExactAgreeOn'. -/
def fnExactAgreeOnCard : Claim7 := { stood := { row := fnExactAgreeOnRow, standIns := [], harness := (true, "72ebe60491234a1bfdcd5689709a0993366026a1d7f104484294d97cf5ca0b20"), looks := true }, kinds := [], alts := [], laidByText := true, laidKinds := [.data, .data, .data, .sentinel, .sentinel], laidTests := true, laidLooks := .later }
def FnExactAgreeOnCardSaid : Prop := Claim7.holds Tryz.pinned (.plain (OpenSpec.ofChange fnExactAgreeOnSpec)) fnExactAgreeOnCard

/-- THE TIED CARD OF 'laws.FnExactReceiveAll'. -/
def fnExactReceiveAllCard : Claim7 := { stood := { row := fnExactReceiveAllRow, standIns := [], harness := (true, "72ebe60491234a1bfdcd5689709a0993366026a1d7f104484294d97cf5ca0b20"), looks := true }, kinds := [], alts := [], laidByText := true, laidKinds := [.data, .data, .data, .sentinel, .sentinel], laidTests := true, laidLooks := .later }
def FnExactReceiveAllCardSaid : Prop := Claim7.holds Tryz.pinned (.plain (OpenSpec.ofChange fnExactReceiveAllSpec)) fnExactReceiveAllCard

/-- THE TIED CARD OF 'laws.FnExactReceiveAt'. -/
def fnExactReceiveAtCard : Claim7 := { stood := { row := fnExactReceiveAtRow, standIns := [], harness := (true, "72ebe60491234a1bfdcd5689709a0993366026a1d7f104484294d97cf5ca0b20"), looks := true }, kinds := [], alts := [], laidByText := true, laidKinds := [.data, .data, .data, .sentinel, .sentinel], laidTests := true, laidLooks := .later }
def FnExactReceiveAtCardSaid : Prop := Claim7.holds Tryz.pinned (.plain (OpenSpec.ofChange fnExactReceiveAtSpec)) fnExactReceiveAtCard

/-- THE TIED CARD OF 'laws.FnExactRunStates'. -/
def fnExactRunStatesCard : Claim7 := { stood := { row := fnExactRunStatesRow, standIns := [], harness := (true, "72ebe60491234a1bfdcd5689709a0993366026a1d7f104484294d97cf5ca0b20"), looks := true }, kinds := [], alts := [], laidByText := true, laidKinds := [.data, .data, .data, .sentinel, .sentinel], laidTests := true, laidLooks := .later }
def FnExactRunStatesCardSaid : Prop := Claim7.holds Tryz.pinned (.plain (OpenSpec.ofChange fnExactRunStatesSpec)) fnExactRunStatesCard

/-- THE TIED CARD OF 'laws.FnExactTellState'. -/
def fnExactTellStateCard : Claim7 := { stood := { row := fnExactTellStateRow, standIns := [], harness := (true, "72ebe60491234a1bfdcd5689709a0993366026a1d7f104484294d97cf5ca0b20"), looks := true }, kinds := [], alts := [], laidByText := true, laidKinds := [.data, .data, .data, .sentinel, .sentinel], laidTests := true, laidLooks := .later }
def FnExactTellStateCardSaid : Prop := Claim7.holds Tryz.pinned (.plain (OpenSpec.ofChange fnExactTellStateSpec)) fnExactTellStateCard

/-- THE TIED CARD OF 'laws.FnRadio'. -/
def fnRadioCard : Claim7 := { stood := { row := fnRadioRow, standIns := [], harness := (true, "72ebe60491234a1bfdcd5689709a0993366026a1d7f104484294d97cf5ca0b20"), looks := true }, kinds := [], alts := [], laidByText := true, laidKinds := [.data, .data, .data, .sentinel, .sentinel], laidTests := true, laidLooks := .later }
def FnRadioCardSaid : Prop := Claim7.holds Tryz.pinned (.plain (OpenSpec.ofChange fnRadioSpec)) fnRadioCard

/-- THE TIED CARD OF 'laws.FnEnds'. -/
def fnEndsCard : Claim7 := { stood := { row := fnEndsRow, standIns := [], harness := (true, "72ebe60491234a1bfdcd5689709a0993366026a1d7f104484294d97cf5ca0b20"), looks := true }, kinds := [], alts := [], laidByText := true, laidKinds := [.data, .data, .data, .sentinel, .sentinel], laidTests := true, laidLooks := .later }
def FnEndsCardSaid : Prop := Claim7.holds Tryz.pinned (.plain (OpenSpec.ofChange fnEndsSpec)) fnEndsCard

/-- THE TIED CARD OF 'laws.FnReceived'. -/
def fnReceivedCard : Claim7 := { stood := { row := fnReceivedRow, standIns := [], harness := (true, "72ebe60491234a1bfdcd5689709a0993366026a1d7f104484294d97cf5ca0b20"), looks := true }, kinds := [], alts := [], laidByText := true, laidKinds := [.data, .data, .data, .sentinel, .sentinel], laidTests := true, laidLooks := .later }
def FnReceivedCardSaid : Prop := Claim7.holds Tryz.pinned (.plain (OpenSpec.ofChange fnReceivedSpec)) fnReceivedCard

/-- THE SECOND FORM's CARD OF 'laws.FnExactBehindBy'. -/
def fnExactBehindByUptoCard : Claim7 := { stood := { row := fnExactBehindByUptoRow, standIns := [], harness := (true, "72ebe60491234a1bfdcd5689709a0993366026a1d7f104484294d97cf5ca0b20"), looks := true }, kinds := [], alts := [], laidByText := true, laidKinds := [.data, .data, .data, .sentinel, .sentinel], laidTests := true, laidLooks := .later }
def FnExactBehindByUptoCardSaid : Prop := Claim7.holds Tryz.pinned (.plain (OpenSpec.upto fnExactBehindBySpec)) fnExactBehindByUptoCard

/-- THE SECOND FORM's CARD OF 'laws.FnExactRoomView'. -/
def fnExactRoomViewUptoCard : Claim7 := { stood := { row := fnExactRoomViewUptoRow, standIns := [], harness := (true, "72ebe60491234a1bfdcd5689709a0993366026a1d7f104484294d97cf5ca0b20"), looks := true }, kinds := [], alts := [], laidByText := true, laidKinds := [.data, .data, .data, .sentinel, .sentinel], laidTests := true, laidLooks := .later }
def FnExactRoomViewUptoCardSaid : Prop := Claim7.holds Tryz.pinned (.plain (OpenSpec.upto fnExactRoomViewSpec)) fnExactRoomViewUptoCard

/-- THE SECOND FORM's CARD OF 'laws.FnExactAgreeOn'. -/
def fnExactAgreeOnUptoCard : Claim7 := { stood := { row := fnExactAgreeOnUptoRow, standIns := [], harness := (true, "72ebe60491234a1bfdcd5689709a0993366026a1d7f104484294d97cf5ca0b20"), looks := true }, kinds := [], alts := [], laidByText := true, laidKinds := [.data, .data, .data, .sentinel, .sentinel], laidTests := true, laidLooks := .later }
def FnExactAgreeOnUptoCardSaid : Prop := Claim7.holds Tryz.pinned (.plain (OpenSpec.upto fnExactAgreeOnSpec)) fnExactAgreeOnUptoCard

/-- THE SECOND FORM's CARD OF 'laws.FnExactReceiveAll'. -/
def fnExactReceiveAllUptoCard : Claim7 := { stood := { row := fnExactReceiveAllUptoRow, standIns := [], harness := (true, "72ebe60491234a1bfdcd5689709a0993366026a1d7f104484294d97cf5ca0b20"), looks := true }, kinds := [], alts := [], laidByText := true, laidKinds := [.data, .data, .data, .sentinel, .sentinel], laidTests := true, laidLooks := .later }
def FnExactReceiveAllUptoCardSaid : Prop := Claim7.holds Tryz.pinned (.plain (OpenSpec.upto fnExactReceiveAllSpec)) fnExactReceiveAllUptoCard

/-- THE SECOND FORM's CARD OF 'laws.FnExactReceiveAt'. -/
def fnExactReceiveAtUptoCard : Claim7 := { stood := { row := fnExactReceiveAtUptoRow, standIns := [], harness := (true, "72ebe60491234a1bfdcd5689709a0993366026a1d7f104484294d97cf5ca0b20"), looks := true }, kinds := [], alts := [], laidByText := true, laidKinds := [.data, .data, .data, .sentinel, .sentinel], laidTests := true, laidLooks := .later }
def FnExactReceiveAtUptoCardSaid : Prop := Claim7.holds Tryz.pinned (.plain (OpenSpec.upto fnExactReceiveAtSpec)) fnExactReceiveAtUptoCard

/-- THE SECOND FORM's CARD OF 'laws.FnExactRunStates'. -/
def fnExactRunStatesUptoCard : Claim7 := { stood := { row := fnExactRunStatesUptoRow, standIns := [], harness := (true, "72ebe60491234a1bfdcd5689709a0993366026a1d7f104484294d97cf5ca0b20"), looks := true }, kinds := [], alts := [], laidByText := true, laidKinds := [.data, .data, .data, .sentinel, .sentinel], laidTests := true, laidLooks := .later }
def FnExactRunStatesUptoCardSaid : Prop := Claim7.holds Tryz.pinned (.plain (OpenSpec.upto fnExactRunStatesSpec)) fnExactRunStatesUptoCard

/-- THE SECOND FORM's CARD OF 'laws.FnExactTellState'. -/
def fnExactTellStateUptoCard : Claim7 := { stood := { row := fnExactTellStateUptoRow, standIns := [], harness := (true, "72ebe60491234a1bfdcd5689709a0993366026a1d7f104484294d97cf5ca0b20"), looks := true }, kinds := [], alts := [], laidByText := true, laidKinds := [.data, .data, .data, .sentinel, .sentinel], laidTests := true, laidLooks := .later }
def FnExactTellStateUptoCardSaid : Prop := Claim7.holds Tryz.pinned (.plain (OpenSpec.upto fnExactTellStateSpec)) fnExactTellStateUptoCard

/-- THE SECOND FORM's CARD OF 'laws.FnRadio'. -/
def fnRadioUptoCard : Claim7 := { stood := { row := fnRadioUptoRow, standIns := [], harness := (true, "72ebe60491234a1bfdcd5689709a0993366026a1d7f104484294d97cf5ca0b20"), looks := true }, kinds := [], alts := [], laidByText := true, laidKinds := [.data, .data, .data, .sentinel, .sentinel], laidTests := true, laidLooks := .later }
def FnRadioUptoCardSaid : Prop := Claim7.holds Tryz.pinned (.plain (OpenSpec.upto fnRadioSpec)) fnRadioUptoCard

/-- THE SECOND FORM's CARD OF 'laws.FnEnds'. -/
def fnEndsUptoCard : Claim7 := { stood := { row := fnEndsUptoRow, standIns := [], harness := (true, "72ebe60491234a1bfdcd5689709a0993366026a1d7f104484294d97cf5ca0b20"), looks := true }, kinds := [], alts := [], laidByText := true, laidKinds := [.data, .data, .data, .sentinel, .sentinel], laidTests := true, laidLooks := .later }
def FnEndsUptoCardSaid : Prop := Claim7.holds Tryz.pinned (.plain (OpenSpec.upto fnEndsSpec)) fnEndsUptoCard

/-- THE SECOND FORM's CARD OF 'laws.FnReceived'. -/
def fnReceivedUptoCard : Claim7 := { stood := { row := fnReceivedUptoRow, standIns := [], harness := (true, "72ebe60491234a1bfdcd5689709a0993366026a1d7f104484294d97cf5ca0b20"), looks := true }, kinds := [], alts := [], laidByText := true, laidKinds := [.data, .data, .data, .sentinel, .sentinel], laidTests := true, laidLooks := .later }
def FnReceivedUptoCardSaid : Prop := Claim7.holds Tryz.pinned (.plain (OpenSpec.upto fnReceivedSpec)) fnReceivedUptoCard
end Rows
end Go.Proofs.YtianabfehonliaaGreatDoor

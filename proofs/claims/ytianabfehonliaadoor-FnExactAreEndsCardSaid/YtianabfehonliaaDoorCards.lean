/-
  DERIVED. GIVEN WITH THE SEED: THE CARDS: each row of YtianabfehonliaaDoorRows.lean that lists a variable, with what it lists TIED to the program's text (the seventh form; the later family's looks); each row that meets fmt, with fmt's text TOLD by the authors' own Lean function (tested against real Go, not proved from fmt's source: count such statements apart). THE CARD IS WHAT COUNTS. Prove the row's statement (the work); the ties are given (YtianabfehonliaaDoorTie.lean); close each card by the builder's one call (the guide's Derived/Test/ToyasCard.lean, 'card_holds'). Laid BY PROGRAM, IN A SANDBOX (cutbox-door.mjs). By AI agents, Wed Nov 11 2026. No macro, syntax, notation, axiom, sorry.
-/
import Derived.Test.YtianabfehonliaaDoorRows
import GoSem.ClaimSeven
namespace Go.Proofs.YtianabfehonliaaDoor
namespace Rows

/-- THE TIED CARD OF 'laws.FnExactParseMessage'. -/
def fnExactParseMessageCard : Claim7 := { stood := { row := fnExactParseMessageRow, standIns := [], harness := (true, "8798e70f911484055b3678847bf450ef23febfd2813c91d0afd3815c5846bfe4"), looks := true }, kinds := [], alts := [], laidByText := true, laidKinds := [.data, .data, .data, .sentinel, .sentinel], laidTests := true, laidLooks := .later }
def FnExactParseMessageCardSaid : Prop := Claim7.holds Tryd.pinned (.plain (OpenSpec.ofChange fnExactParseMessageSpec)) fnExactParseMessageCard

/-- THE TIED CARD OF 'laws.FnExactAreEnds'. -/
def fnExactAreEndsCard : Claim7 := { stood := { row := fnExactAreEndsRow, standIns := [], harness := (true, "8798e70f911484055b3678847bf450ef23febfd2813c91d0afd3815c5846bfe4"), looks := true }, kinds := [], alts := [], laidByText := true, laidKinds := [.data, .data, .data, .sentinel, .sentinel], laidTests := true, laidLooks := .later }
def FnExactAreEndsCardSaid : Prop := Claim7.holds Tryd.pinned (.plain (OpenSpec.ofChange fnExactAreEndsSpec)) fnExactAreEndsCard

/-- THE SECOND FORM's CARD OF 'laws.FnExactParseMessage'. -/
def fnExactParseMessageUptoCard : Claim7 := { stood := { row := fnExactParseMessageUptoRow, standIns := [], harness := (true, "8798e70f911484055b3678847bf450ef23febfd2813c91d0afd3815c5846bfe4"), looks := true }, kinds := [], alts := [], laidByText := true, laidKinds := [.data, .data, .data, .sentinel, .sentinel], laidTests := true, laidLooks := .later }
def FnExactParseMessageUptoCardSaid : Prop := Claim7.holds Tryd.pinned (.plain (OpenSpec.upto fnExactParseMessageSpec)) fnExactParseMessageUptoCard

/-- THE SECOND FORM's CARD OF 'laws.FnExactAreEnds'. -/
def fnExactAreEndsUptoCard : Claim7 := { stood := { row := fnExactAreEndsUptoRow, standIns := [], harness := (true, "8798e70f911484055b3678847bf450ef23febfd2813c91d0afd3815c5846bfe4"), looks := true }, kinds := [], alts := [], laidByText := true, laidKinds := [.data, .data, .data, .sentinel, .sentinel], laidTests := true, laidLooks := .later }
def FnExactAreEndsUptoCardSaid : Prop := Claim7.holds Tryd.pinned (.plain (OpenSpec.upto fnExactAreEndsSpec)) fnExactAreEndsUptoCard
end Rows
end Go.Proofs.YtianabfehonliaaDoor

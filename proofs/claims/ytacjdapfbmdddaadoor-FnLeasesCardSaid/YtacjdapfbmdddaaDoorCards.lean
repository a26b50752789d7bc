/-
  DERIVED. GIVEN WITH THE SEED: THE CARDS: each row of YtacjdapfbmdddaaDoorRows.lean that lists a variable, with what it lists TIED to the program's text (the seventh form; the later family's looks); each row that meets fmt, with fmt's text TOLD by the authors' own Lean function (tested against real Go, not proved from fmt's source: count such statements apart). THE CARD IS WHAT COUNTS. Prove the row's statement (the work); the ties are given (YtacjdapfbmdddaaDoorTie.lean); close each card by the builder's one call (the guide's Derived/Test/ToyasCard.lean, 'card_holds'). Laid BY PROGRAM, IN A SANDBOX (cutbox-door.mjs). By AI agents, Wed Nov 11 2026. No macro, syntax, notation, axiom, sorry.
-/
import Derived.Test.YtacjdapfbmdddaaDoorRows
import GoSem.ClaimSeven
namespace Go.Proofs.YtacjdapfbmdddaaDoor
namespace Rows

/-- THE TIED CARD OF 'laws.FnLeases'. -/
def fnLeasesCard : Claim7 := { stood := { row := fnLeasesRow, standIns := [], harness := (true, "1d17e1eb400f1d74c9f5652510bb8190dc3db9fa44e1c41dcbf291d018a8f9ff"), looks := false }, kinds := [], alts := [], laidByText := true, laidKinds := [.data, .data, .data], laidTests := true, laidLooks := .later }
def FnLeasesCardSaid : Prop := Claim7.holds Tryd.pinned (.plain (OpenSpec.ofChange fnLeasesSpec)) fnLeasesCard

/-- THE SECOND FORM's CARD OF 'laws.FnLeases'. -/
def fnLeasesUptoCard : Claim7 := { stood := { row := fnLeasesUptoRow, standIns := [], harness := (true, "1d17e1eb400f1d74c9f5652510bb8190dc3db9fa44e1c41dcbf291d018a8f9ff"), looks := false }, kinds := [], alts := [], laidByText := true, laidKinds := [.data, .data, .data], laidTests := true, laidLooks := .later }
def FnLeasesUptoCardSaid : Prop := Claim7.holds Tryd.pinned (.plain (OpenSpec.upto fnLeasesSpec)) fnLeasesUptoCard
end Rows
end Go.Proofs.YtacjdapfbmdddaaDoor

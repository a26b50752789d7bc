/-
  DERIVED. GIVEN WITH THE SEED: THE CARDS: each row of YtcphchmpgnfokaaDoorRows.lean that lists a variable, with what it lists TIED to the program's text (the seventh form; the later family's looks); each row that meets fmt, with fmt's text TOLD by the authors' own Lean function (tested against real Go, not proved from fmt's source: count such statements apart). THE CARD IS WHAT COUNTS. Prove the row's statement (the work); the ties are given (YtcphchmpgnfokaaDoorTie.lean); close each card by the builder's one call (the guide's Derived/Test/ToyasCard.lean, 'card_holds'). Laid BY PROGRAM, IN A SANDBOX (cutbox-door.mjs). By AI agents, Wed Nov 11 2026. No macro, syntax, notation, axiom, sorry.
-/
import Derived.Test.YtcphchmpgnfokaaDoorRows
import GoSem.ClaimSeven
namespace Go.Proofs.YtcphchmpgnfokaaDoor
namespace Rows

/-- THE TIED CARD OF 'laws.FnExactLeaseText'. -/
def fnExactLeaseTextCard : Claim7 := { stood := { row := fnExactLeaseTextRow, standIns := [], harness := (true, "333a39fa64c3ae2b8fee16f0a820946edafdd7711b45d890cf6817908685f853"), looks := true }, kinds := [], alts := [], laidByText := true, laidKinds := [.data, .data, .data], laidTests := true, laidLooks := .later }
def FnExactLeaseTextCardSaid : Prop := Claim7.holds Tryd.pinned (.plain (OpenSpec.ofChange fnExactLeaseTextSpec)) fnExactLeaseTextCard

/-- THE TIED CARD OF 'laws.FnExactEntryText'. -/
def fnExactEntryTextCard : Claim7 := { stood := { row := fnExactEntryTextRow, standIns := [], harness := (true, "333a39fa64c3ae2b8fee16f0a820946edafdd7711b45d890cf6817908685f853"), looks := true }, kinds := [], alts := [], laidByText := true, laidKinds := [.data, .data, .data], laidTests := true, laidLooks := .later }
def FnExactEntryTextCardSaid : Prop := Claim7.holds Tryd.pinned (.plain (OpenSpec.ofChange fnExactEntryTextSpec)) fnExactEntryTextCard

/-- THE TIED CARD OF 'laws.FnExactLogText'. -/
def fnExactLogTextCard : Claim7 := { stood := { row := fnExactLogTextRow, standIns := [], harness := (true, "333a39fa64c3ae2b8fee16f0a820946edafdd7711b45d890cf6817908685f853"), looks := true }, kinds := [], alts := [], laidByText := true, laidKinds := [.data, .data, .data], laidTests := true, laidLooks := .later }
def FnExactLogTextCardSaid : Prop := Claim7.holds Tryd.pinned (.plain (OpenSpec.ofChange fnExactLogTextSpec)) fnExactLogTextCard

/-- THE TIED CARD OF 'laws.FnExactSumOfLog'. -/
def fnExactSumOfLogCard : Claim7 := { stood := { row := fnExactSumOfLogRow, standIns := [], harness := (true, "333a39fa64c3ae2b8fee16f0a820946edafdd7711b45d890cf6817908685f853"), looks := true }, kinds := [], alts := [], laidByText := true, laidKinds := [.data, .data, .data], laidTests := true, laidLooks := .later }
def FnExactSumOfLogCardSaid : Prop := Claim7.holds Tryd.pinned (.plain (OpenSpec.ofChange fnExactSumOfLogSpec)) fnExactSumOfLogCard

/-- THE TIED CARD OF 'laws.FnExactHistoryText'. -/
def fnExactHistoryTextCard : Claim7 := { stood := { row := fnExactHistoryTextRow, standIns := [], harness := (true, "333a39fa64c3ae2b8fee16f0a820946edafdd7711b45d890cf6817908685f853"), looks := true }, kinds := [], alts := [], laidByText := true, laidKinds := [.data, .data, .data], laidTests := true, laidLooks := .later }
def FnExactHistoryTextCardSaid : Prop := Claim7.holds Tryd.pinned (.plain (OpenSpec.ofChange fnExactHistoryTextSpec)) fnExactHistoryTextCard

/-- THE TIED CARD OF 'laws.FnExactLiveEntries'. -/
def fnExactLiveEntriesCard : Claim7 := { stood := { row := fnExactLiveEntriesRow, standIns := [], harness := (true, "333a39fa64c3ae2b8fee16f0a820946edafdd7711b45d890cf6817908685f853"), looks := true }, kinds := [], alts := [], laidByText := true, laidKinds := [.data, .data, .data, .sentinel, .sentinel], laidTests := true, laidLooks := .later }
def FnExactLiveEntriesCardSaid : Prop := Claim7.holds Tryd.pinned (.plain (OpenSpec.ofChange fnExactLiveEntriesSpec)) fnExactLiveEntriesCard

/-- THE TIED CARD OF 'laws.FnExactParseEntry'. -/
def fnExactParseEntryCard : Claim7 := { stood := { row := fnExactParseEntryRow, standIns := [], harness := (true, "333a39fa64c3ae2b8fee16f0a820946edafdd7711b45d890cf6817908685f853"), looks := true }, kinds := [], alts := [], laidByText := true, laidKinds := [.data, .data, .data, .data, .sentinel, .sentinel, .pinned], laidTests := true, laidLooks := .later }
def FnExactParseEntryCardSaid : Prop := Claim7.holds Tryd.pinned (.plain (OpenSpec.ofChange fnExactParseEntrySpec)) fnExactParseEntryCard

/-- THE TIED CARD OF 'laws.FnExactCancelEntry'. -/
def fnExactCancelEntryCard : Claim7 := { stood := { row := fnExactCancelEntryRow, standIns := [], harness := (true, "333a39fa64c3ae2b8fee16f0a820946edafdd7711b45d890cf6817908685f853"), looks := true }, kinds := [], alts := [], laidByText := true, laidKinds := [.data, .data, .data, .sentinel, .sentinel], laidTests := true, laidLooks := .later }
def FnExactCancelEntryCardSaid : Prop := Claim7.holds Tryd.pinned (.plain (OpenSpec.ofChange fnExactCancelEntrySpec)) fnExactCancelEntryCard

/-- THE TIED CARD OF 'laws.FnExactParseLog'. -/
def fnExactParseLogCard : Claim7 := { stood := { row := fnExactParseLogRow, standIns := [], harness := (true, "333a39fa64c3ae2b8fee16f0a820946edafdd7711b45d890cf6817908685f853"), looks := true }, kinds := [], alts := [], laidByText := true, laidKinds := [.data, .data, .data, .data, .sentinel, .sentinel, .pinned], laidTests := true, laidLooks := .later }
def FnExactParseLogCardSaid : Prop := Claim7.holds Tryd.pinned (.plain (OpenSpec.ofChange fnExactParseLogSpec)) fnExactParseLogCard

/-- THE TIED CARD OF 'laws.FnExactEntriesWith'. -/
def fnExactEntriesWithCard : Claim7 := { stood := { row := fnExactEntriesWithRow, standIns := [], harness := (true, "333a39fa64c3ae2b8fee16f0a820946edafdd7711b45d890cf6817908685f853"), looks := true }, kinds := [], alts := [], laidByText := true, laidKinds := [.data, .data, .data, .data, .sentinel, .sentinel, .pinned], laidTests := true, laidLooks := .later }
def FnExactEntriesWithCardSaid : Prop := Claim7.holds Tryd.pinned (.plain (OpenSpec.ofChange fnExactEntriesWithSpec)) fnExactEntriesWithCard

/-- THE SECOND FORM's CARD OF 'laws.FnExactLeaseText'. -/
def fnExactLeaseTextUptoCard : Claim7 := { stood := { row := fnExactLeaseTextUptoRow, standIns := [], harness := (true, "333a39fa64c3ae2b8fee16f0a820946edafdd7711b45d890cf6817908685f853"), looks := true }, kinds := [], alts := [], laidByText := true, laidKinds := [.data, .data, .data], laidTests := true, laidLooks := .later }
def FnExactLeaseTextUptoCardSaid : Prop := Claim7.holds Tryd.pinned (.plain (OpenSpec.upto fnExactLeaseTextSpec)) fnExactLeaseTextUptoCard

/-- THE SECOND FORM's CARD OF 'laws.FnExactEntryText'. -/
def fnExactEntryTextUptoCard : Claim7 := { stood := { row := fnExactEntryTextUptoRow, standIns := [], harness := (true, "333a39fa64c3ae2b8fee16f0a820946edafdd7711b45d890cf6817908685f853"), looks := true }, kinds := [], alts := [], laidByText := true, laidKinds := [.data, .data, .data], laidTests := true, laidLooks := .later }
def FnExactEntryTextUptoCardSaid : Prop := Claim7.holds Tryd.pinned (.plain (OpenSpec.upto fnExactEntryTextSpec)) fnExactEntryTextUptoCard

/-- THE SECOND FORM's CARD OF 'laws.FnExactLogText'. -/
def fnExactLogTextUptoCard : Claim7 := { stood := { row := fnExactLogTextUptoRow, standIns := [], harness := (true, "333a39fa64c3ae2b8fee16f0a820946edafdd7711b45d890cf6817908685f853"), looks := true }, kinds := [], alts := [], laidByText := true, laidKinds := [.data, .data, .data], laidTests := true, laidLooks := .later }
def FnExactLogTextUptoCardSaid : Prop := Claim7.holds Tryd.pinned (.plain (OpenSpec.upto fnExactLogTextSpec)) fnExactLogTextUptoCard

/-- THE SECOND FORM's CARD OF 'laws.FnExactSumOfLog'. -/
def fnExactSumOfLogUptoCard : Claim7 := { stood := { row := fnExactSumOfLogUptoRow, standIns := [], harness := (true, "333a39fa64c3ae2b8fee16f0a820946edafdd7711b45d890cf6817908685f853"), looks := true }, kinds := [], alts := [], laidByText := true, laidKinds := [.data, .data, .data], laidTests := true, laidLooks := .later }
def FnExactSumOfLogUptoCardSaid : Prop := Claim7.holds Tryd.pinned (.plain (OpenSpec.upto fnExactSumOfLogSpec)) fnExactSumOfLogUptoCard

/-- THE SECOND FORM's CARD OF 'laws.FnExactHistoryText'. -/
def fnExactHistoryTextUptoCard : Claim7 := { stood := { row := fnExactHistoryTextUptoRow, standIns := [], harness := (true, "333a39fa64c3ae2b8fee16f0a820946edafdd7711b45d890cf6817908685f853"), looks := true }, kinds := [], alts := [], laidByText := true, laidKinds := [.data, .data, .data], laidTests := true, laidLooks := .later }
def FnExactHistoryTextUptoCardSaid : Prop := Claim7.holds Tryd.pinned (.plain (OpenSpec.upto fnExactHistoryTextSpec)) fnExactHistoryTextUptoCard

/-- THE SECOND FORM's CARD OF 'laws.FnExactLiveEntries'. -/
def fnExactLiveEntriesUptoCard : Claim7 := { stood := { row := fnExactLiveEntriesUptoRow, standIns := [], harness := (true, "333a39fa64c3ae2b8fee16f0a820946edafdd7711b45d890cf6817908685f853"), looks := true }, kinds := [], alts := [], laidByText := true, laidKinds := [.data, .data, .data, .sentinel, .sentinel], laidTests := true, laidLooks := .later }
def FnExactLiveEntriesUptoCardSaid : Prop := Claim7.holds Tryd.pinned (.plain (OpenSpec.upto fnExactLiveEntriesSpec)) fnExactLiveEntriesUptoCard

/-- THE SECOND FORM's CARD OF 'laws.FnExactParseEntry'. -/
def fnExactParseEntryUptoCard : Claim7 := { stood := { row := fnExactParseEntryUptoRow, standIns := [], harness := (true, "333a39fa64c3ae2b8fee16f0a820946edafdd7711b45d890cf6817908685f853"), looks := true }, kinds := [], alts := [], laidByText := true, laidKinds := [.data, .data, .data, .data, .sentinel, .sentinel, .pinned], laidTests := true, laidLooks := .later }
def FnExactParseEntryUptoCardSaid : Prop := Claim7.holds Tryd.pinned (.plain (OpenSpec.upto fnExactParseEntrySpec)) fnExactParseEntryUptoCard

/-- THE SECOND FORM's CARD OF 'laws.FnExactCancelEntry'. -/
def fnExactCancelEntryUptoCard : Claim7 := { stood := { row := fnExactCancelEntryUptoRow, standIns := [], harness := (true, "333a39fa64c3ae2b8fee16f0a820946edafdd7711b45d890cf6817908685f853"), looks := true }, kinds := [], alts := [], laidByText := true, laidKinds := [.data, .data, .data, .sentinel, .sentinel], laidTests := true, laidLooks := .later }
def FnExactCancelEntryUptoCardSaid : Prop := Claim7.holds Tryd.pinned (.plain (OpenSpec.upto fnExactCancelEntrySpec)) fnExactCancelEntryUptoCard

/-- THE SECOND FORM's CARD OF 'laws.FnExactParseLog'. -/
def fnExactParseLogUptoCard : Claim7 := { stood := { row := fnExactParseLogUptoRow, standIns := [], harness := (true, "333a39fa64c3ae2b8fee16f0a820946edafdd7711b45d890cf6817908685f853"), looks := true }, kinds := [], alts := [], laidByText := true, laidKinds := [.data, .data, .data, .data, .sentinel, .sentinel, .pinned], laidTests := true, laidLooks := .later }
def FnExactParseLogUptoCardSaid : Prop := Claim7.holds Tryd.pinned (.plain (OpenSpec.upto fnExactParseLogSpec)) fnExactParseLogUptoCard

/-- THE SECOND FORM's CARD OF 'laws.FnExactEntriesWith'. -/
def fnExactEntriesWithUptoCard : Claim7 := { stood := { row := fnExactEntriesWithUptoRow, standIns := [], harness := (true, "333a39fa64c3ae2b8fee16f0a820946edafdd7711b45d890cf6817908685f853"), looks := true }, kinds := [], alts := [], laidByText := true, laidKinds := [.data, .data, .data, .data, .sentinel, .sentinel, .pinned], laidTests := true, laidLooks := .later }
def FnExactEntriesWithUptoCardSaid : Prop := Claim7.holds Tryd.pinned (.plain (OpenSpec.upto fnExactEntriesWithSpec)) fnExactEntriesWithUptoCard
end Rows
end Go.Proofs.YtcphchmpgnfokaaDoor

/-
  No cell of these rows narrows 'for every input' (looked for: loops, veiled, ifaces, maps, wideKeys, modest, calm, conditions, laid).
  DERIVED. THE GIVEN ROWS OF THIS SEAT. 12 by the template 'for every input the law returns true; each argument reads behind the call as it read before'; 0 by the template 'total and deterministic' (their statements: YtbgngfpofkmfnaaTotals.lean).
  GIVEN WITH THE SEED: the statements are not yours to turn. If you find one false, say at which input.
  Laid BY PROGRAM, IN A SANDBOX (cutbox-rows.mjs): the forced cells as the released guide's own fill.sh prints them over the translation c2a5c40dc16b1fb7… (all of the seat's roots in one cut). By AI agents, Wed Nov 11 2026. No macro, syntax, notation, axiom, sorry.
-/
import Derived.Test.YtbgngfpofkmfnaaChecked
import GoSem.Claim
import GoSem.ClaimJoined
import GoSem.ClaimMapViews
import Derived.JoinedTies
import Derived.KernelRfl
namespace Go.Proofs.Ytbgngfpofkmfnaa
/- THE CELL 'sum', in the pinned program and in every row, IS THE sha256 OF THE DUMP (.gsa) THAT YtbgngfpofkmfnaaProg.lean LOADS. Nothing in Lean hashes anything: it is a label: what it is worth is what the hold of that sum in a sandbox is worth. -/
noncomputable def Try.pinned : Pinned := { name := "ytbgngfpofkmfnaa", sum := "c2a5c40dc16b1fb7cdae47743fd606ba8ff603698a1918b4d346a8d603f28ae9", checked := Try.checked }
namespace Rows
def none {H : Type} : Left H := { results := [], args := [] }

/-- 'laws.FnExactIsEntry': WHATEVER THE INPUT: true; the input reads as it did. -/
def fnExactIsEntrySpec : ChangeSpec := { name := "fnExactIsEntry", fn := fun _ => fun
  | [d] => { results := [.lit (.bool true)], args := [d] }
  | _ => none }
def fnExactIsEntryRow : OpenClaim := { program := "ytbgngfpofkmfnaa", sum := "c2a5c40dc16b1fb7cdae47743fd606ba8ff603698a1918b4d346a8d603f28ae9", func := "loop.example/g01020/laws.FnExactIsEntry", spec := "fnExactIsEntry", inPlace := ["internal/bytealg.IndexByteString", "internal/bytealg.IndexString"], named := ["internal/bytealg.MaxLen"], apart := false }
def FnExactIsEntrySaid : Prop := fnExactIsEntryRow.holds Try.pinned (OpenSpec.ofChange fnExactIsEntrySpec)

/-- ITS FALSE NEIGHBOUR: 'it returns false'. Refute it at one input. -/
def fnExactIsEntryWrong : ChangeSpec := { name := "fnExactIsEntry", fn := fun _ => fun
  | [d] => { results := [.lit (.bool false)], args := [d] }
  | _ => none }
def FnExactIsEntryWrongFalsely : Prop := fnExactIsEntryRow.holds Try.pinned (OpenSpec.ofChange fnExactIsEntryWrong)

/-- 'laws.FnExactIsLog': WHATEVER THE INPUT: true; the input reads as it did. -/
def fnExactIsLogSpec : ChangeSpec := { name := "fnExactIsLog", fn := fun _ => fun
  | [d] => { results := [.lit (.bool true)], args := [d] }
  | _ => none }
def fnExactIsLogRow : OpenClaim := { program := "ytbgngfpofkmfnaa", sum := "c2a5c40dc16b1fb7cdae47743fd606ba8ff603698a1918b4d346a8d603f28ae9", func := "loop.example/g01020/laws.FnExactIsLog", spec := "fnExactIsLog", inPlace := ["internal/bytealg.IndexByteString", "internal/bytealg.IndexString"], named := ["internal/bytealg.MaxLen"], apart := false }
def FnExactIsLogSaid : Prop := fnExactIsLogRow.holds Try.pinned (OpenSpec.ofChange fnExactIsLogSpec)

/-- ITS FALSE NEIGHBOUR: 'it returns false'. Refute it at one input. -/
def fnExactIsLogWrong : ChangeSpec := { name := "fnExactIsLog", fn := fun _ => fun
  | [d] => { results := [.lit (.bool false)], args := [d] }
  | _ => none }
def FnExactIsLogWrongFalsely : Prop := fnExactIsLogRow.holds Try.pinned (OpenSpec.ofChange fnExactIsLogWrong)

/-- 'laws.FnExactFirstConflict': WHATEVER THE INPUT: true; the input reads as it did. -/
def fnExactFirstConflictSpec : ChangeSpec := { name := "fnExactFirstConflict", fn := fun _ => fun
  | [d1, d2] => { results := [.lit (.bool true)], args := [d1, d2] }
  | _ => none }
def fnExactFirstConflictRow : OpenClaim := { program := "ytbgngfpofkmfnaa", sum := "c2a5c40dc16b1fb7cdae47743fd606ba8ff603698a1918b4d346a8d603f28ae9", func := "loop.example/g01020/laws.FnExactFirstConflict", spec := "fnExactFirstConflict", inPlace := ["internal/bytealg.IndexByteString", "internal/bytealg.IndexString"], named := ["internal/bytealg.MaxLen"], apart := false }
def FnExactFirstConflictSaid : Prop := fnExactFirstConflictRow.holds Try.pinned (OpenSpec.ofChange fnExactFirstConflictSpec)

/-- ITS FALSE NEIGHBOUR: 'it returns false'. Refute it at one input. -/
def fnExactFirstConflictWrong : ChangeSpec := { name := "fnExactFirstConflict", fn := fun _ => fun
  | [d1, d2] => { results := [.lit (.bool false)], args := [d1, d2] }
  | _ => none }
def FnExactFirstConflictWrongFalsely : Prop := fnExactFirstConflictRow.holds Try.pinned (OpenSpec.ofChange fnExactFirstConflictWrong)

/-- 'laws.FnExactSilentTime': WHATEVER THE INPUT: true; the input reads as it did. -/
def fnExactSilentTimeSpec : ChangeSpec := { name := "fnExactSilentTime", fn := fun _ => fun
  | [d] => { results := [.lit (.bool true)], args := [d] }
  | _ => none }
def fnExactSilentTimeRow : OpenClaim := { program := "ytbgngfpofkmfnaa", sum := "c2a5c40dc16b1fb7cdae47743fd606ba8ff603698a1918b4d346a8d603f28ae9", func := "loop.example/g01020/laws.FnExactSilentTime", spec := "fnExactSilentTime", inPlace := ["internal/bytealg.IndexByteString", "internal/bytealg.IndexString"], named := ["internal/bytealg.MaxLen"], apart := false }
def FnExactSilentTimeSaid : Prop := fnExactSilentTimeRow.holds Try.pinned (OpenSpec.ofChange fnExactSilentTimeSpec)

/-- ITS FALSE NEIGHBOUR: 'it returns false'. Refute it at one input. -/
def fnExactSilentTimeWrong : ChangeSpec := { name := "fnExactSilentTime", fn := fun _ => fun
  | [d] => { results := [.lit (.bool false)], args := [d] }
  | _ => none }
def FnExactSilentTimeWrongFalsely : Prop := fnExactSilentTimeRow.holds Try.pinned (OpenSpec.ofChange fnExactSilentTimeWrong)

/-- 'laws.FnExactIsBeginning': WHATEVER THE INPUT: true; the input reads as it did. -/
def fnExactIsBeginningSpec : ChangeSpec := { name := "fnExactIsBeginning", fn := fun _ => fun
  | [d1, d2] => { results := [.lit (.bool true)], args := [d1, d2] }
  | _ => none }
def fnExactIsBeginningRow : OpenClaim := { program := "ytbgngfpofkmfnaa", sum := "c2a5c40dc16b1fb7cdae47743fd606ba8ff603698a1918b4d346a8d603f28ae9", func := "loop.example/g01020/laws.FnExactIsBeginning", spec := "fnExactIsBeginning", inPlace := ["internal/bytealg.IndexByteString", "internal/bytealg.IndexString"], named := ["internal/bytealg.MaxLen"], apart := false }
def FnExactIsBeginningSaid : Prop := fnExactIsBeginningRow.holds Try.pinned (OpenSpec.ofChange fnExactIsBeginningSpec)

/-- ITS FALSE NEIGHBOUR: 'it returns false'. Refute it at one input. -/
def fnExactIsBeginningWrong : ChangeSpec := { name := "fnExactIsBeginning", fn := fun _ => fun
  | [d1, d2] => { results := [.lit (.bool false)], args := [d1, d2] }
  | _ => none }
def FnExactIsBeginningWrongFalsely : Prop := fnExactIsBeginningRow.holds Try.pinned (OpenSpec.ofChange fnExactIsBeginningWrong)

/-- 'laws.FnExactCutLog': WHATEVER THE INPUT: true; the input reads as it did. -/
def fnExactCutLogSpec : ChangeSpec := { name := "fnExactCutLog", fn := fun _ => fun
  | [d1, d2] => { results := [.lit (.bool true)], args := [d1, d2] }
  | _ => none }
def fnExactCutLogRow : OpenClaim := { program := "ytbgngfpofkmfnaa", sum := "c2a5c40dc16b1fb7cdae47743fd606ba8ff603698a1918b4d346a8d603f28ae9", func := "loop.example/g01020/laws.FnExactCutLog", spec := "fnExactCutLog", inPlace := ["internal/bytealg.IndexByteString", "internal/bytealg.IndexString"], named := ["internal/bytealg.MaxLen"], apart := false }
def FnExactCutLogSaid : Prop := fnExactCutLogRow.holds Try.pinned (OpenSpec.ofChange fnExactCutLogSpec)

/-- ITS FALSE NEIGHBOUR: 'it returns false'. Refute it at one input. -/
def fnExactCutLogWrong : ChangeSpec := { name := "fnExactCutLog", fn := fun _ => fun
  | [d1, d2] => { results := [.lit (.bool false)], args := [d1, d2] }
  | _ => none }
def FnExactCutLogWrongFalsely : Prop := fnExactCutLogRow.holds Try.pinned (OpenSpec.ofChange fnExactCutLogWrong)

/-- 'laws.FnExactEntriesBetween': WHATEVER THE INPUT: true; the input reads as it did. -/
def fnExactEntriesBetweenSpec : ChangeSpec := { name := "fnExactEntriesBetween", fn := fun _ => fun
  | [d1, d2, d3] => { results := [.lit (.bool true)], args := [d1, d2, d3] }
  | _ => none }
def fnExactEntriesBetweenRow : OpenClaim := { program := "ytbgngfpofkmfnaa", sum := "c2a5c40dc16b1fb7cdae47743fd606ba8ff603698a1918b4d346a8d603f28ae9", func := "loop.example/g01020/laws.FnExactEntriesBetween", spec := "fnExactEntriesBetween", inPlace := ["internal/bytealg.IndexByteString", "internal/bytealg.IndexString"], named := ["internal/bytealg.MaxLen"], apart := false }
def FnExactEntriesBetweenSaid : Prop := fnExactEntriesBetweenRow.holds Try.pinned (OpenSpec.ofChange fnExactEntriesBetweenSpec)

/-- ITS FALSE NEIGHBOUR: 'it returns false'. Refute it at one input. -/
def fnExactEntriesBetweenWrong : ChangeSpec := { name := "fnExactEntriesBetween", fn := fun _ => fun
  | [d1, d2, d3] => { results := [.lit (.bool false)], args := [d1, d2, d3] }
  | _ => none }
def FnExactEntriesBetweenWrongFalsely : Prop := fnExactEntriesBetweenRow.holds Try.pinned (OpenSpec.ofChange fnExactEntriesBetweenWrong)

/-- 'laws.FnExactAppendEntry': WHATEVER THE INPUT: true; the input reads as it did. -/
def fnExactAppendEntrySpec : ChangeSpec := { name := "fnExactAppendEntry", fn := fun _ => fun
  | [d1, d2, d3, d4] => { results := [.lit (.bool true)], args := [d1, d2, d3, d4] }
  | _ => none }
def fnExactAppendEntryRow : OpenClaim := { program := "ytbgngfpofkmfnaa", sum := "c2a5c40dc16b1fb7cdae47743fd606ba8ff603698a1918b4d346a8d603f28ae9", func := "loop.example/g01020/laws.FnExactAppendEntry", spec := "fnExactAppendEntry", inPlace := ["internal/bytealg.IndexByteString", "internal/bytealg.IndexString"], named := ["internal/bytealg.MaxLen"], apart := false }
def FnExactAppendEntrySaid : Prop := fnExactAppendEntryRow.holds Try.pinned (OpenSpec.ofChange fnExactAppendEntrySpec)

/-- ITS FALSE NEIGHBOUR: 'it returns false'. Refute it at one input. -/
def fnExactAppendEntryWrong : ChangeSpec := { name := "fnExactAppendEntry", fn := fun _ => fun
  | [d1, d2, d3, d4] => { results := [.lit (.bool false)], args := [d1, d2, d3, d4] }
  | _ => none }
def FnExactAppendEntryWrongFalsely : Prop := fnExactAppendEntryRow.holds Try.pinned (OpenSpec.ofChange fnExactAppendEntryWrong)

/-- 'laws.FnExactJoinCopies': WHATEVER THE INPUT: true; the input reads as it did. -/
def fnExactJoinCopiesSpec : ChangeSpec := { name := "fnExactJoinCopies", fn := fun _ => fun
  | [d1, d2] => { results := [.lit (.bool true)], args := [d1, d2] }
  | _ => none }
def fnExactJoinCopiesRow : OpenClaim := { program := "ytbgngfpofkmfnaa", sum := "c2a5c40dc16b1fb7cdae47743fd606ba8ff603698a1918b4d346a8d603f28ae9", func := "loop.example/g01020/laws.FnExactJoinCopies", spec := "fnExactJoinCopies", inPlace := ["internal/bytealg.IndexByteString", "internal/bytealg.IndexString"], named := ["internal/bytealg.MaxLen"], apart := false }
def FnExactJoinCopiesSaid : Prop := fnExactJoinCopiesRow.holds Try.pinned (OpenSpec.ofChange fnExactJoinCopiesSpec)

/-- ITS FALSE NEIGHBOUR: 'it returns false'. Refute it at one input. -/
def fnExactJoinCopiesWrong : ChangeSpec := { name := "fnExactJoinCopies", fn := fun _ => fun
  | [d1, d2] => { results := [.lit (.bool false)], args := [d1, d2] }
  | _ => none }
def FnExactJoinCopiesWrongFalsely : Prop := fnExactJoinCopiesRow.holds Try.pinned (OpenSpec.ofChange fnExactJoinCopiesWrong)

/-- 'laws.FnExactIsHistory': WHATEVER THE INPUT: true; the input reads as it did. -/
def fnExactIsHistorySpec : ChangeSpec := { name := "fnExactIsHistory", fn := fun _ => fun
  | [d] => { results := [.lit (.bool true)], args := [d] }
  | _ => none }
def fnExactIsHistoryRow : OpenClaim := { program := "ytbgngfpofkmfnaa", sum := "c2a5c40dc16b1fb7cdae47743fd606ba8ff603698a1918b4d346a8d603f28ae9", func := "loop.example/g01020/laws.FnExactIsHistory", spec := "fnExactIsHistory", inPlace := ["internal/bytealg.IndexByteString", "internal/bytealg.IndexString"], unfollowed := true, recurses := true, named := ["internal/bytealg.MaxLen"], apart := false }
def FnExactIsHistorySaid : Prop := fnExactIsHistoryRow.holds Try.pinned (OpenSpec.ofChange fnExactIsHistorySpec)

/-- ITS FALSE NEIGHBOUR: 'it returns false'. Refute it at one input. -/
def fnExactIsHistoryWrong : ChangeSpec := { name := "fnExactIsHistory", fn := fun _ => fun
  | [d] => { results := [.lit (.bool false)], args := [d] }
  | _ => none }
def FnExactIsHistoryWrongFalsely : Prop := fnExactIsHistoryRow.holds Try.pinned (OpenSpec.ofChange fnExactIsHistoryWrong)

/-- 'laws.FnExactPlaceOf': WHATEVER THE INPUT: true; the input reads as it did. -/
def fnExactPlaceOfSpec : ChangeSpec := { name := "fnExactPlaceOf", fn := fun _ => fun
  | [d1, d2, d3] => { results := [.lit (.bool true)], args := [d1, d2, d3] }
  | _ => none }
def fnExactPlaceOfRow : OpenClaim := { program := "ytbgngfpofkmfnaa", sum := "c2a5c40dc16b1fb7cdae47743fd606ba8ff603698a1918b4d346a8d603f28ae9", func := "loop.example/g01020/laws.FnExactPlaceOf", spec := "fnExactPlaceOf", inPlace := ["internal/bytealg.IndexByteString", "internal/bytealg.IndexString"], unfollowed := true, recurses := true, named := ["internal/bytealg.MaxLen"], apart := false }
def FnExactPlaceOfSaid : Prop := fnExactPlaceOfRow.holds Try.pinned (OpenSpec.ofChange fnExactPlaceOfSpec)

/-- ITS FALSE NEIGHBOUR: 'it returns false'. Refute it at one input. -/
def fnExactPlaceOfWrong : ChangeSpec := { name := "fnExactPlaceOf", fn := fun _ => fun
  | [d1, d2, d3] => { results := [.lit (.bool false)], args := [d1, d2, d3] }
  | _ => none }
def FnExactPlaceOfWrongFalsely : Prop := fnExactPlaceOfRow.holds Try.pinned (OpenSpec.ofChange fnExactPlaceOfWrong)

/-- 'laws.FnExactActiveRoom': WHATEVER THE INPUT: true; the input reads as it did. -/
def fnExactActiveRoomSpec : ChangeSpec := { name := "fnExactActiveRoom", fn := fun _ => fun
  | [d1, d2] => { results := [.lit (.bool true)], args := [d1, d2] }
  | _ => none }
def fnExactActiveRoomRow : OpenClaim := { program := "ytbgngfpofkmfnaa", sum := "c2a5c40dc16b1fb7cdae47743fd606ba8ff603698a1918b4d346a8d603f28ae9", func := "loop.example/g01020/laws.FnExactActiveRoom", spec := "fnExactActiveRoom", inPlace := ["internal/bytealg.IndexByteString", "internal/bytealg.IndexString"], unfollowed := true, recurses := true, named := ["internal/bytealg.MaxLen"], apart := false }
def FnExactActiveRoomSaid : Prop := fnExactActiveRoomRow.holds Try.pinned (OpenSpec.ofChange fnExactActiveRoomSpec)

/-- ITS FALSE NEIGHBOUR: 'it returns false'. Refute it at one input. -/
def fnExactActiveRoomWrong : ChangeSpec := { name := "fnExactActiveRoom", fn := fun _ => fun
  | [d1, d2] => { results := [.lit (.bool false)], args := [d1, d2] }
  | _ => none }
def FnExactActiveRoomWrongFalsely : Prop := fnExactActiveRoomRow.holds Try.pinned (OpenSpec.ofChange fnExactActiveRoomWrong)

/- THE SECOND FORM. 'bulk': how many values and letters a reading holds, each counted each time it is reached (what is shared counts as often as it is met; a slice's spare places count too). A statement '..UptoSaid' is the law's where the arguments, and the package variables that the reading takes, are together of bulk at most 1048576: NARROWER than '..Said'. Prove '..Said' where nothing that the law and all that it calls make is longer than what came in: it says more and counts as full. Else prove '..UptoSaid'. A law counts once. -/
mutual
def uptoBulk {H : Type} : DataW H → Nat
  | .lit (.string bytes) => bytes.length + 1
  | .lit _ => 1
  | .nil => 1
  | .ptr d => uptoBulk d + 1
  | .slice elems spare => uptoBulkAll elems + uptoBulkAll spare + 1
  | .agg parts => uptoBulkAll parts + 1
  | .iface _ d => uptoBulk d + 1
  | .map entries => uptoBulkEntries entries + 1
  | .held _ => 1
def uptoBulkAll {H : Type} : List (DataW H) → Nat
  | [] => 0
  | d :: r => uptoBulk d + uptoBulkAll r
def uptoBulkEntries {H : Type} : List (Lit × DataW H) → Nat
  | [] => 0
  | x :: r => uptoBulkEntry x + uptoBulkEntries r
def uptoBulkEntry {H : Type} : Lit × DataW H → Nat
  | (.string bytes, d) => bytes.length + uptoBulk d + 1
  | (_, d) => uptoBulk d + 1
 end
def uptoSmall : (H : Type) → List (DataW H) → Bool := fun _ ds => decide (uptoBulkAll ds ≤ 1048576)
def OpenSpec.upto (s : _root_.Go.ChangeSpec) : _root_.Go.OpenSpec := { _root_.Go.OpenSpec.ofChange s with cond := some uptoSmall }

/-- 'laws.FnExactIsEntry', WHERE WHAT IT READS IS OF BULK AT MOST 1048576: true; the input reads as it did. -/
def fnExactIsEntryUptoRow : OpenClaim := { program := "ytbgngfpofkmfnaa", sum := "c2a5c40dc16b1fb7cdae47743fd606ba8ff603698a1918b4d346a8d603f28ae9", func := "loop.example/g01020/laws.FnExactIsEntry", spec := "fnExactIsEntry", inPlace := ["internal/bytealg.IndexByteString", "internal/bytealg.IndexString"], named := ["internal/bytealg.MaxLen"], apart := false, narrowed := true }
def FnExactIsEntryUptoSaid : Prop := fnExactIsEntryUptoRow.holds Try.pinned (OpenSpec.upto fnExactIsEntrySpec)

/-- 'laws.FnExactIsLog', WHERE WHAT IT READS IS OF BULK AT MOST 1048576: true; the input reads as it did. -/
def fnExactIsLogUptoRow : OpenClaim := { program := "ytbgngfpofkmfnaa", sum := "c2a5c40dc16b1fb7cdae47743fd606ba8ff603698a1918b4d346a8d603f28ae9", func := "loop.example/g01020/laws.FnExactIsLog", spec := "fnExactIsLog", inPlace := ["internal/bytealg.IndexByteString", "internal/bytealg.IndexString"], named := ["internal/bytealg.MaxLen"], apart := false, narrowed := true }
def FnExactIsLogUptoSaid : Prop := fnExactIsLogUptoRow.holds Try.pinned (OpenSpec.upto fnExactIsLogSpec)

/-- 'laws.FnExactFirstConflict', WHERE WHAT IT READS IS OF BULK AT MOST 1048576: true; the input reads as it did. -/
def fnExactFirstConflictUptoRow : OpenClaim := { program := "ytbgngfpofkmfnaa", sum := "c2a5c40dc16b1fb7cdae47743fd606ba8ff603698a1918b4d346a8d603f28ae9", func := "loop.example/g01020/laws.FnExactFirstConflict", spec := "fnExactFirstConflict", inPlace := ["internal/bytealg.IndexByteString", "internal/bytealg.IndexString"], named := ["internal/bytealg.MaxLen"], apart := false, narrowed := true }
def FnExactFirstConflictUptoSaid : Prop := fnExactFirstConflictUptoRow.holds Try.pinned (OpenSpec.upto fnExactFirstConflictSpec)

/-- 'laws.FnExactSilentTime', WHERE WHAT IT READS IS OF BULK AT MOST 1048576: true; the input reads as it did. -/
def fnExactSilentTimeUptoRow : OpenClaim := { program := "ytbgngfpofkmfnaa", sum := "c2a5c40dc16b1fb7cdae47743fd606ba8ff603698a1918b4d346a8d603f28ae9", func := "loop.example/g01020/laws.FnExactSilentTime", spec := "fnExactSilentTime", inPlace := ["internal/bytealg.IndexByteString", "internal/bytealg.IndexString"], named := ["internal/bytealg.MaxLen"], apart := false, narrowed := true }
def FnExactSilentTimeUptoSaid : Prop := fnExactSilentTimeUptoRow.holds Try.pinned (OpenSpec.upto fnExactSilentTimeSpec)

/-- 'laws.FnExactIsBeginning', WHERE WHAT IT READS IS OF BULK AT MOST 1048576: true; the input reads as it did. -/
def fnExactIsBeginningUptoRow : OpenClaim := { program := "ytbgngfpofkmfnaa", sum := "c2a5c40dc16b1fb7cdae47743fd606ba8ff603698a1918b4d346a8d603f28ae9", func := "loop.example/g01020/laws.FnExactIsBeginning", spec := "fnExactIsBeginning", inPlace := ["internal/bytealg.IndexByteString", "internal/bytealg.IndexString"], named := ["internal/bytealg.MaxLen"], apart := false, narrowed := true }
def FnExactIsBeginningUptoSaid : Prop := fnExactIsBeginningUptoRow.holds Try.pinned (OpenSpec.upto fnExactIsBeginningSpec)

/-- 'laws.FnExactCutLog', WHERE WHAT IT READS IS OF BULK AT MOST 1048576: true; the input reads as it did. -/
def fnExactCutLogUptoRow : OpenClaim := { program := "ytbgngfpofkmfnaa", sum := "c2a5c40dc16b1fb7cdae47743fd606ba8ff603698a1918b4d346a8d603f28ae9", func := "loop.example/g01020/laws.FnExactCutLog", spec := "fnExactCutLog", inPlace := ["internal/bytealg.IndexByteString", "internal/bytealg.IndexString"], named := ["internal/bytealg.MaxLen"], apart := false, narrowed := true }
def FnExactCutLogUptoSaid : Prop := fnExactCutLogUptoRow.holds Try.pinned (OpenSpec.upto fnExactCutLogSpec)

/-- 'laws.FnExactEntriesBetween', WHERE WHAT IT READS IS OF BULK AT MOST 1048576: true; the input reads as it did. -/
def fnExactEntriesBetweenUptoRow : OpenClaim := { program := "ytbgngfpofkmfnaa", sum := "c2a5c40dc16b1fb7cdae47743fd606ba8ff603698a1918b4d346a8d603f28ae9", func := "loop.example/g01020/laws.FnExactEntriesBetween", spec := "fnExactEntriesBetween", inPlace := ["internal/bytealg.IndexByteString", "internal/bytealg.IndexString"], named := ["internal/bytealg.MaxLen"], apart := false, narrowed := true }
def FnExactEntriesBetweenUptoSaid : Prop := fnExactEntriesBetweenUptoRow.holds Try.pinned (OpenSpec.upto fnExactEntriesBetweenSpec)

/-- 'laws.FnExactAppendEntry', WHERE WHAT IT READS IS OF BULK AT MOST 1048576: true; the input reads as it did. -/
def fnExactAppendEntryUptoRow : OpenClaim := { program := "ytbgngfpofkmfnaa", sum := "c2a5c40dc16b1fb7cdae47743fd606ba8ff603698a1918b4d346a8d603f28ae9", func := "loop.example/g01020/laws.FnExactAppendEntry", spec := "fnExactAppendEntry", inPlace := ["internal/bytealg.IndexByteString", "internal/bytealg.IndexString"], named := ["internal/bytealg.MaxLen"], apart := false, narrowed := true }
def FnExactAppendEntryUptoSaid : Prop := fnExactAppendEntryUptoRow.holds Try.pinned (OpenSpec.upto fnExactAppendEntrySpec)

/-- 'laws.FnExactJoinCopies', WHERE WHAT IT READS IS OF BULK AT MOST 1048576: true; the input reads as it did. -/
def fnExactJoinCopiesUptoRow : OpenClaim := { program := "ytbgngfpofkmfnaa", sum := "c2a5c40dc16b1fb7cdae47743fd606ba8ff603698a1918b4d346a8d603f28ae9", func := "loop.example/g01020/laws.FnExactJoinCopies", spec := "fnExactJoinCopies", inPlace := ["internal/bytealg.IndexByteString", "internal/bytealg.IndexString"], named := ["internal/bytealg.MaxLen"], apart := false, narrowed := true }
def FnExactJoinCopiesUptoSaid : Prop := fnExactJoinCopiesUptoRow.holds Try.pinned (OpenSpec.upto fnExactJoinCopiesSpec)

/-- 'laws.FnExactIsHistory', WHERE WHAT IT READS IS OF BULK AT MOST 1048576: true; the input reads as it did. -/
def fnExactIsHistoryUptoRow : OpenClaim := { program := "ytbgngfpofkmfnaa", sum := "c2a5c40dc16b1fb7cdae47743fd606ba8ff603698a1918b4d346a8d603f28ae9", func := "loop.example/g01020/laws.FnExactIsHistory", spec := "fnExactIsHistory", inPlace := ["internal/bytealg.IndexByteString", "internal/bytealg.IndexString"], unfollowed := true, recurses := true, named := ["internal/bytealg.MaxLen"], apart := false, narrowed := true }
def FnExactIsHistoryUptoSaid : Prop := fnExactIsHistoryUptoRow.holds Try.pinned (OpenSpec.upto fnExactIsHistorySpec)

/-- 'laws.FnExactPlaceOf', WHERE WHAT IT READS IS OF BULK AT MOST 1048576: true; the input reads as it did. -/
def fnExactPlaceOfUptoRow : OpenClaim := { program := "ytbgngfpofkmfnaa", sum := "c2a5c40dc16b1fb7cdae47743fd606ba8ff603698a1918b4d346a8d603f28ae9", func := "loop.example/g01020/laws.FnExactPlaceOf", spec := "fnExactPlaceOf", inPlace := ["internal/bytealg.IndexByteString", "internal/bytealg.IndexString"], unfollowed := true, recurses := true, named := ["internal/bytealg.MaxLen"], apart := false, narrowed := true }
def FnExactPlaceOfUptoSaid : Prop := fnExactPlaceOfUptoRow.holds Try.pinned (OpenSpec.upto fnExactPlaceOfSpec)

/-- 'laws.FnExactActiveRoom', WHERE WHAT IT READS IS OF BULK AT MOST 1048576: true; the input reads as it did. -/
def fnExactActiveRoomUptoRow : OpenClaim := { program := "ytbgngfpofkmfnaa", sum := "c2a5c40dc16b1fb7cdae47743fd606ba8ff603698a1918b4d346a8d603f28ae9", func := "loop.example/g01020/laws.FnExactActiveRoom", spec := "fnExactActiveRoom", inPlace := ["internal/bytealg.IndexByteString", "internal/bytealg.IndexString"], unfollowed := true, recurses := true, named := ["internal/bytealg.MaxLen"], apart := false, narrowed := true }
def FnExactActiveRoomUptoSaid : Prop := fnExactActiveRoomUptoRow.holds Try.pinned (OpenSpec.upto fnExactActiveRoomSpec)

end Rows
end Go.Proofs.Ytbgngfpofkmfnaa

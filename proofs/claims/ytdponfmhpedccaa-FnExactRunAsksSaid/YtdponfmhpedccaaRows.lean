/-
  No cell of these rows narrows 'for every input' (looked for: loops, veiled, ifaces, maps, wideKeys, modest, calm, conditions, laid).
  DERIVED. THE GIVEN ROWS OF THIS SEAT. 10 by the template 'for every input the law returns true; each argument reads behind the call as it read before'; 0 by the template 'total and deterministic' (their statements: YtdponfmhpedccaaTotals.lean).
  GIVEN WITH THE SEED: the statements are not yours to turn. If you find one false, say at which input.
  Laid BY PROGRAM, IN A SANDBOX (cutbox-rows.mjs): the forced cells as the released guide's own fill.sh prints them over the translation 7fe9386f360fa9ba… (all of the seat's roots in one cut). By AI agents, Wed Nov 11 2026. No macro, syntax, notation, axiom, sorry.
-/
import Derived.Test.YtdponfmhpedccaaChecked
import GoSem.Claim
import GoSem.ClaimJoined
import GoSem.ClaimMapViews
import Derived.JoinedTies
import Derived.KernelRfl
namespace Go.Proofs.Ytdponfmhpedccaa
/- THE CELL 'sum', in the pinned program and in every row, IS THE sha256 OF THE DUMP (.gsa) THAT YtdponfmhpedccaaProg.lean LOADS. Nothing in Lean hashes anything: it is a label: what it is worth is what the hold of that sum in a sandbox is worth. -/
noncomputable def Try.pinned : Pinned := { name := "ytdponfmhpedccaa", sum := "7fe9386f360fa9ba17bc002af9e46dd917becedd527bac2aef352f6250a63830", checked := Try.checked }
namespace Rows
def none {H : Type} : Left H := { results := [], args := [] }

/-- 'laws.FnExactIsLease': WHATEVER THE INPUT: true; the input reads as it did. -/
def fnExactIsLeaseSpec : ChangeSpec := { name := "fnExactIsLease", fn := fun _ => fun
  | [d] => { results := [.lit (.bool true)], args := [d] }
  | _ => none }
def fnExactIsLeaseRow : OpenClaim := { program := "ytdponfmhpedccaa", sum := "7fe9386f360fa9ba17bc002af9e46dd917becedd527bac2aef352f6250a63830", func := "loop.example/g01020/laws.FnExactIsLease", spec := "fnExactIsLease", apart := false }
def FnExactIsLeaseSaid : Prop := fnExactIsLeaseRow.holds Try.pinned (OpenSpec.ofChange fnExactIsLeaseSpec)

/-- ITS FALSE NEIGHBOUR: 'it returns false'. Refute it at one input. -/
def fnExactIsLeaseWrong : ChangeSpec := { name := "fnExactIsLease", fn := fun _ => fun
  | [d] => { results := [.lit (.bool false)], args := [d] }
  | _ => none }
def FnExactIsLeaseWrongFalsely : Prop := fnExactIsLeaseRow.holds Try.pinned (OpenSpec.ofChange fnExactIsLeaseWrong)

/-- 'laws.FnExactHolderAt': WHATEVER THE INPUT: true; the input reads as it did. -/
def fnExactHolderAtSpec : ChangeSpec := { name := "fnExactHolderAt", fn := fun _ => fun
  | [d1, d2] => { results := [.lit (.bool true)], args := [d1, d2] }
  | _ => none }
def fnExactHolderAtRow : OpenClaim := { program := "ytdponfmhpedccaa", sum := "7fe9386f360fa9ba17bc002af9e46dd917becedd527bac2aef352f6250a63830", func := "loop.example/g01020/laws.FnExactHolderAt", spec := "fnExactHolderAt", apart := false }
def FnExactHolderAtSaid : Prop := fnExactHolderAtRow.holds Try.pinned (OpenSpec.ofChange fnExactHolderAtSpec)

/-- ITS FALSE NEIGHBOUR: 'it returns false'. Refute it at one input. -/
def fnExactHolderAtWrong : ChangeSpec := { name := "fnExactHolderAt", fn := fun _ => fun
  | [d1, d2] => { results := [.lit (.bool false)], args := [d1, d2] }
  | _ => none }
def FnExactHolderAtWrongFalsely : Prop := fnExactHolderAtRow.holds Try.pinned (OpenSpec.ofChange fnExactHolderAtWrong)

/-- 'laws.FnExactMaySend': WHATEVER THE INPUT: true; the input reads as it did. -/
def fnExactMaySendSpec : ChangeSpec := { name := "fnExactMaySend", fn := fun _ => fun
  | [d1, d2, d3, d4] => { results := [.lit (.bool true)], args := [d1, d2, d3, d4] }
  | _ => none }
def fnExactMaySendRow : OpenClaim := { program := "ytdponfmhpedccaa", sum := "7fe9386f360fa9ba17bc002af9e46dd917becedd527bac2aef352f6250a63830", func := "loop.example/g01020/laws.FnExactMaySend", spec := "fnExactMaySend", apart := false }
def FnExactMaySendSaid : Prop := fnExactMaySendRow.holds Try.pinned (OpenSpec.ofChange fnExactMaySendSpec)

/-- ITS FALSE NEIGHBOUR: 'it returns false'. Refute it at one input. -/
def fnExactMaySendWrong : ChangeSpec := { name := "fnExactMaySend", fn := fun _ => fun
  | [d1, d2, d3, d4] => { results := [.lit (.bool false)], args := [d1, d2, d3, d4] }
  | _ => none }
def FnExactMaySendWrongFalsely : Prop := fnExactMaySendRow.holds Try.pinned (OpenSpec.ofChange fnExactMaySendWrong)

/-- 'laws.FnExactEarliestTakeover': WHATEVER THE INPUT: true; the input reads as it did. -/
def fnExactEarliestTakeoverSpec : ChangeSpec := { name := "fnExactEarliestTakeover", fn := fun _ => fun
  | [d1, d2, d3] => { results := [.lit (.bool true)], args := [d1, d2, d3] }
  | _ => none }
def fnExactEarliestTakeoverRow : OpenClaim := { program := "ytdponfmhpedccaa", sum := "7fe9386f360fa9ba17bc002af9e46dd917becedd527bac2aef352f6250a63830", func := "loop.example/g01020/laws.FnExactEarliestTakeover", spec := "fnExactEarliestTakeover", apart := false }
def FnExactEarliestTakeoverSaid : Prop := fnExactEarliestTakeoverRow.holds Try.pinned (OpenSpec.ofChange fnExactEarliestTakeoverSpec)

/-- ITS FALSE NEIGHBOUR: 'it returns false'. Refute it at one input. -/
def fnExactEarliestTakeoverWrong : ChangeSpec := { name := "fnExactEarliestTakeover", fn := fun _ => fun
  | [d1, d2, d3] => { results := [.lit (.bool false)], args := [d1, d2, d3] }
  | _ => none }
def FnExactEarliestTakeoverWrongFalsely : Prop := fnExactEarliestTakeoverRow.holds Try.pinned (OpenSpec.ofChange fnExactEarliestTakeoverWrong)

/-- 'laws.FnExactGiveLease': WHATEVER THE INPUT: true; the input reads as it did. -/
def fnExactGiveLeaseSpec : ChangeSpec := { name := "fnExactGiveLease", fn := fun _ => fun
  | [d1, d2, d3, d4] => { results := [.lit (.bool true)], args := [d1, d2, d3, d4] }
  | _ => none }
def fnExactGiveLeaseRow : OpenClaim := { program := "ytdponfmhpedccaa", sum := "7fe9386f360fa9ba17bc002af9e46dd917becedd527bac2aef352f6250a63830", func := "loop.example/g01020/laws.FnExactGiveLease", spec := "fnExactGiveLease", apart := false }
def FnExactGiveLeaseSaid : Prop := fnExactGiveLeaseRow.holds Try.pinned (OpenSpec.ofChange fnExactGiveLeaseSpec)

/-- ITS FALSE NEIGHBOUR: 'it returns false'. Refute it at one input. -/
def fnExactGiveLeaseWrong : ChangeSpec := { name := "fnExactGiveLease", fn := fun _ => fun
  | [d1, d2, d3, d4] => { results := [.lit (.bool false)], args := [d1, d2, d3, d4] }
  | _ => none }
def FnExactGiveLeaseWrongFalsely : Prop := fnExactGiveLeaseRow.holds Try.pinned (OpenSpec.ofChange fnExactGiveLeaseWrong)

/-- 'laws.FnExactTakeLease': WHATEVER THE INPUT: true; the input reads as it did. -/
def fnExactTakeLeaseSpec : ChangeSpec := { name := "fnExactTakeLease", fn := fun _ => fun
  | [d1, d2, d3, d4, d5] => { results := [.lit (.bool true)], args := [d1, d2, d3, d4, d5] }
  | _ => none }
def fnExactTakeLeaseRow : OpenClaim := { program := "ytdponfmhpedccaa", sum := "7fe9386f360fa9ba17bc002af9e46dd917becedd527bac2aef352f6250a63830", func := "loop.example/g01020/laws.FnExactTakeLease", spec := "fnExactTakeLease", apart := false }
def FnExactTakeLeaseSaid : Prop := fnExactTakeLeaseRow.holds Try.pinned (OpenSpec.ofChange fnExactTakeLeaseSpec)

/-- ITS FALSE NEIGHBOUR: 'it returns false'. Refute it at one input. -/
def fnExactTakeLeaseWrong : ChangeSpec := { name := "fnExactTakeLease", fn := fun _ => fun
  | [d1, d2, d3, d4, d5] => { results := [.lit (.bool false)], args := [d1, d2, d3, d4, d5] }
  | _ => none }
def FnExactTakeLeaseWrongFalsely : Prop := fnExactTakeLeaseRow.holds Try.pinned (OpenSpec.ofChange fnExactTakeLeaseWrong)

/-- 'laws.FnExactRenewLease': WHATEVER THE INPUT: true; the input reads as it did. -/
def fnExactRenewLeaseSpec : ChangeSpec := { name := "fnExactRenewLease", fn := fun _ => fun
  | [d1, d2, d3, d4, d5] => { results := [.lit (.bool true)], args := [d1, d2, d3, d4, d5] }
  | _ => none }
def fnExactRenewLeaseRow : OpenClaim := { program := "ytdponfmhpedccaa", sum := "7fe9386f360fa9ba17bc002af9e46dd917becedd527bac2aef352f6250a63830", func := "loop.example/g01020/laws.FnExactRenewLease", spec := "fnExactRenewLease", apart := false }
def FnExactRenewLeaseSaid : Prop := fnExactRenewLeaseRow.holds Try.pinned (OpenSpec.ofChange fnExactRenewLeaseSpec)

/-- ITS FALSE NEIGHBOUR: 'it returns false'. Refute it at one input. -/
def fnExactRenewLeaseWrong : ChangeSpec := { name := "fnExactRenewLease", fn := fun _ => fun
  | [d1, d2, d3, d4, d5] => { results := [.lit (.bool false)], args := [d1, d2, d3, d4, d5] }
  | _ => none }
def FnExactRenewLeaseWrongFalsely : Prop := fnExactRenewLeaseRow.holds Try.pinned (OpenSpec.ofChange fnExactRenewLeaseWrong)

/-- 'laws.FnExactAnswerAsk': WHATEVER THE INPUT: true; the input reads as it did. -/
def fnExactAnswerAskSpec : ChangeSpec := { name := "fnExactAnswerAsk", fn := fun _ => fun
  | [d1, d2, d3, d4] => { results := [.lit (.bool true)], args := [d1, d2, d3, d4] }
  | _ => none }
def fnExactAnswerAskRow : OpenClaim := { program := "ytdponfmhpedccaa", sum := "7fe9386f360fa9ba17bc002af9e46dd917becedd527bac2aef352f6250a63830", func := "loop.example/g01020/laws.FnExactAnswerAsk", spec := "fnExactAnswerAsk", apart := false }
def FnExactAnswerAskSaid : Prop := fnExactAnswerAskRow.holds Try.pinned (OpenSpec.ofChange fnExactAnswerAskSpec)

/-- ITS FALSE NEIGHBOUR: 'it returns false'. Refute it at one input. -/
def fnExactAnswerAskWrong : ChangeSpec := { name := "fnExactAnswerAsk", fn := fun _ => fun
  | [d1, d2, d3, d4] => { results := [.lit (.bool false)], args := [d1, d2, d3, d4] }
  | _ => none }
def FnExactAnswerAskWrongFalsely : Prop := fnExactAnswerAskRow.holds Try.pinned (OpenSpec.ofChange fnExactAnswerAskWrong)

/-- 'laws.FnExactRunAsks': WHATEVER THE INPUT: true; the input reads as it did. -/
def fnExactRunAsksSpec : ChangeSpec := { name := "fnExactRunAsks", fn := fun _ => fun
  | [d1, d2, d3, d4] => { results := [.lit (.bool true)], args := [d1, d2, d3, d4] }
  | _ => none }
def fnExactRunAsksRow : OpenClaim := { program := "ytdponfmhpedccaa", sum := "7fe9386f360fa9ba17bc002af9e46dd917becedd527bac2aef352f6250a63830", func := "loop.example/g01020/laws.FnExactRunAsks", spec := "fnExactRunAsks", unfollowed := true, recurses := true, apart := false }
def FnExactRunAsksSaid : Prop := fnExactRunAsksRow.holds Try.pinned (OpenSpec.ofChange fnExactRunAsksSpec)

/-- ITS FALSE NEIGHBOUR: 'it returns false'. Refute it at one input. -/
def fnExactRunAsksWrong : ChangeSpec := { name := "fnExactRunAsks", fn := fun _ => fun
  | [d1, d2, d3, d4] => { results := [.lit (.bool false)], args := [d1, d2, d3, d4] }
  | _ => none }
def FnExactRunAsksWrongFalsely : Prop := fnExactRunAsksRow.holds Try.pinned (OpenSpec.ofChange fnExactRunAsksWrong)

/-- 'laws.FnExactSentBy': WHATEVER THE INPUT: true; the input reads as it did. -/
def fnExactSentBySpec : ChangeSpec := { name := "fnExactSentBy", fn := fun _ => fun
  | [d1, d2, d3, d4] => { results := [.lit (.bool true)], args := [d1, d2, d3, d4] }
  | _ => none }
def fnExactSentByRow : OpenClaim := { program := "ytdponfmhpedccaa", sum := "7fe9386f360fa9ba17bc002af9e46dd917becedd527bac2aef352f6250a63830", func := "loop.example/g01020/laws.FnExactSentBy", spec := "fnExactSentBy", unfollowed := true, recurses := true, apart := false }
def FnExactSentBySaid : Prop := fnExactSentByRow.holds Try.pinned (OpenSpec.ofChange fnExactSentBySpec)

/-- ITS FALSE NEIGHBOUR: 'it returns false'. Refute it at one input. -/
def fnExactSentByWrong : ChangeSpec := { name := "fnExactSentBy", fn := fun _ => fun
  | [d1, d2, d3, d4] => { results := [.lit (.bool false)], args := [d1, d2, d3, d4] }
  | _ => none }
def FnExactSentByWrongFalsely : Prop := fnExactSentByRow.holds Try.pinned (OpenSpec.ofChange fnExactSentByWrong)

/- THE SECOND FORM. 'bulk': how many values and letters a reading holds, each counted each time it is reached (what is shared counts as often as it is met; a slice's spare places count too). A statement '..UptoSaid' is the law's where the arguments, and the package variables that the reading takes, are together of bulk at most 1048576: NARROWER than '..Said'. Prove '..Said' where nothing that the law and all that it calls make is longer than what came in: it says more and counts as full. Else prove '..UptoSaid'. A law counts once. -/
mutual
def uptoBulk {H : Type} : DataW H → Nat
  | .lit (.string bytes) => bytes.length + 1
  | .lit _ => 1
  | .nil => 1
  | .ptr d => uptoBulk d + 1
  | .slice elems spare => uptoBulkAll elems + uptoBulkAll spare + 1
  | .agg parts => uptoBulkAll parts + 1
  | .iface _ d => uptoBulk d + 1
  | .map entries => uptoBulkEntries entries + 1
  | .held _ => 1
def uptoBulkAll {H : Type} : List (DataW H) → Nat
  | [] => 0
  | d :: r => uptoBulk d + uptoBulkAll r
def uptoBulkEntries {H : Type} : List (Lit × DataW H) → Nat
  | [] => 0
  | x :: r => uptoBulkEntry x + uptoBulkEntries r
def uptoBulkEntry {H : Type} : Lit × DataW H → Nat
  | (.string bytes, d) => bytes.length + uptoBulk d + 1
  | (_, d) => uptoBulk d + 1
 end
def uptoSmall : (H : Type) → List (DataW H) → Bool := fun _ ds => decide (uptoBulkAll ds ≤ 1048576)
def OpenSpec.upto (s : _root_.Go.ChangeSpec) : _root_.Go.OpenSpec := { _root_.Go.OpenSpec.ofChange s with cond := some uptoSmall }

/-- 'laws.FnExactIsLease', WHERE WHAT IT READS IS OF BULK AT MOST 1048576: true; the input reads as it did. -/
def fnExactIsLeaseUptoRow : OpenClaim := { program := "ytdponfmhpedccaa", sum := "7fe9386f360fa9ba17bc002af9e46dd917becedd527bac2aef352f6250a63830", func := "loop.example/g01020/laws.FnExactIsLease", spec := "fnExactIsLease", apart := false, narrowed := true }
def FnExactIsLeaseUptoSaid : Prop := fnExactIsLeaseUptoRow.holds Try.pinned (OpenSpec.upto fnExactIsLeaseSpec)

/-- 'laws.FnExactHolderAt', WHERE WHAT IT READS IS OF BULK AT MOST 1048576: true; the input reads as it did. -/
def fnExactHolderAtUptoRow : OpenClaim := { program := "ytdponfmhpedccaa", sum := "7fe9386f360fa9ba17bc002af9e46dd917becedd527bac2aef352f6250a63830", func := "loop.example/g01020/laws.FnExactHolderAt", spec := "fnExactHolderAt", apart := false, narrowed := true }
def FnExactHolderAtUptoSaid : Prop := fnExactHolderAtUptoRow.holds Try.pinned (OpenSpec.upto fnExactHolderAtSpec)

/-- 'laws.FnExactMaySend', WHERE WHAT IT READS IS OF BULK AT MOST 1048576: true; the input reads as it did. -/
def fnExactMaySendUptoRow : OpenClaim := { program := "ytdponfmhpedccaa", sum := "7fe9386f360fa9ba17bc002af9e46dd917becedd527bac2aef352f6250a63830", func := "loop.example/g01020/laws.FnExactMaySend", spec := "fnExactMaySend", apart := false, narrowed := true }
def FnExactMaySendUptoSaid : Prop := fnExactMaySendUptoRow.holds Try.pinned (OpenSpec.upto fnExactMaySendSpec)

/-- 'laws.FnExactEarliestTakeover', WHERE WHAT IT READS IS OF BULK AT MOST 1048576: true; the input reads as it did. -/
def fnExactEarliestTakeoverUptoRow : OpenClaim := { program := "ytdponfmhpedccaa", sum := "7fe9386f360fa9ba17bc002af9e46dd917becedd527bac2aef352f6250a63830", func := "loop.example/g01020/laws.FnExactEarliestTakeover", spec := "fnExactEarliestTakeover", apart := false, narrowed := true }
def FnExactEarliestTakeoverUptoSaid : Prop := fnExactEarliestTakeoverUptoRow.holds Try.pinned (OpenSpec.upto fnExactEarliestTakeoverSpec)

/-- 'laws.FnExactGiveLease', WHERE WHAT IT READS IS OF BULK AT MOST 1048576: true; the input reads as it did. -/
def fnExactGiveLeaseUptoRow : OpenClaim := { program := "ytdponfmhpedccaa", sum := "7fe9386f360fa9ba17bc002af9e46dd917becedd527bac2aef352f6250a63830", func := "loop.example/g01020/laws.FnExactGiveLease", spec := "fnExactGiveLease", apart := false, narrowed := true }
def FnExactGiveLeaseUptoSaid : Prop := fnExactGiveLeaseUptoRow.holds Try.pinned (OpenSpec.upto fnExactGiveLeaseSpec)

/-- 'laws.FnExactTakeLease', WHERE WHAT IT READS IS OF BULK AT MOST 1048576: true; the input reads as it did. -/
def fnExactTakeLeaseUptoRow : OpenClaim := { program := "ytdponfmhpedccaa", sum := "7fe9386f360fa9ba17bc002af9e46dd917becedd527bac2aef352f6250a63830", func := "loop.example/g01020/laws.FnExactTakeLease", spec := "fnExactTakeLease", apart := false, narrowed := true }
def FnExactTakeLeaseUptoSaid : Prop := fnExactTakeLeaseUptoRow.holds Try.pinned (OpenSpec.upto fnExactTakeLeaseSpec)

/-- 'laws.FnExactRenewLease', WHERE WHAT IT READS IS OF BULK AT MOST 1048576: true; the input reads as it did. -/
def fnExactRenewLeaseUptoRow : OpenClaim := { program := "ytdponfmhpedccaa", sum := "7fe9386f360fa9ba17bc002af9e46dd917becedd527bac2aef352f6250a63830", func := "loop.example/g01020/laws.FnExactRenewLease", spec := "fnExactRenewLease", apart := false, narrowed := true }
def FnExactRenewLeaseUptoSaid : Prop := fnExactRenewLeaseUptoRow.holds Try.pinned (OpenSpec.upto fnExactRenewLeaseSpec)

/-- 'laws.FnExactAnswerAsk', WHERE WHAT IT READS IS OF BULK AT MOST 1048576: true; the input reads as it did. -/
def fnExactAnswerAskUptoRow : OpenClaim := { program := "ytdponfmhpedccaa", sum := "7fe9386f360fa9ba17bc002af9e46dd917becedd527bac2aef352f6250a63830", func := "loop.example/g01020/laws.FnExactAnswerAsk", spec := "fnExactAnswerAsk", apart := false, narrowed := true }
def FnExactAnswerAskUptoSaid : Prop := fnExactAnswerAskUptoRow.holds Try.pinned (OpenSpec.upto fnExactAnswerAskSpec)

/-- 'laws.FnExactRunAsks', WHERE WHAT IT READS IS OF BULK AT MOST 1048576: true; the input reads as it did. -/
def fnExactRunAsksUptoRow : OpenClaim := { program := "ytdponfmhpedccaa", sum := "7fe9386f360fa9ba17bc002af9e46dd917becedd527bac2aef352f6250a63830", func := "loop.example/g01020/laws.FnExactRunAsks", spec := "fnExactRunAsks", unfollowed := true, recurses := true, apart := false, narrowed := true }
def FnExactRunAsksUptoSaid : Prop := fnExactRunAsksUptoRow.holds Try.pinned (OpenSpec.upto fnExactRunAsksSpec)

/-- 'laws.FnExactSentBy', WHERE WHAT IT READS IS OF BULK AT MOST 1048576: true; the input reads as it did. -/
def fnExactSentByUptoRow : OpenClaim := { program := "ytdponfmhpedccaa", sum := "7fe9386f360fa9ba17bc002af9e46dd917becedd527bac2aef352f6250a63830", func := "loop.example/g01020/laws.FnExactSentBy", spec := "fnExactSentBy", unfollowed := true, recurses := true, apart := false, narrowed := true }
def FnExactSentByUptoSaid : Prop := fnExactSentByUptoRow.holds Try.pinned (OpenSpec.upto fnExactSentBySpec)

end Rows
end Go.Proofs.Ytdponfmhpedccaa

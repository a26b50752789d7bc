/-
  No cell of these rows narrows 'for every input' (looked for: loops, veiled, ifaces, maps, wideKeys, modest, calm, conditions, laid).
  DERIVED. THE GIVEN ROWS OF THIS SEAT. 5 by the template 'for every input the law returns true; each argument reads behind the call as it read before'; 0 by the template 'total and deterministic' (their statements: YtbddghbcgolbnaaTotals.lean).
  GIVEN WITH THE SEED: the statements are not yours to turn. If you find one false, say at which input.
  Laid BY PROGRAM, IN A SANDBOX (cutbox-rows.mjs): the forced cells as the released guide's own fill.sh prints them over the translation 238441d38a757c47… (all of the seat's roots in one cut). By AI agents, Wed Nov 11 2026. No macro, syntax, notation, axiom, sorry.
-/
import Derived.Test.YtbddghbcgolbnaaChecked
import GoSem.Claim
import GoSem.ClaimJoined
import GoSem.ClaimMapViews
import Derived.JoinedTies
import Derived.KernelRfl
namespace Go.Proofs.Ytbddghbcgolbnaa
/- THE CELL 'sum', in the pinned program and in every row, IS THE sha256 OF THE DUMP (.gsa) THAT YtbddghbcgolbnaaProg.lean LOADS. Nothing in Lean hashes anything: it is a label: what it is worth is what the hold of that sum in a sandbox is worth. -/
noncomputable def Try.pinned : Pinned := { name := "ytbddghbcgolbnaa", sum := "238441d38a757c47324931a4a7df2acaeafa81eca1f7e0f13c4bbfb5d385b0fc", checked := Try.checked }
namespace Rows
def none {H : Type} : Left H := { results := [], args := [] }

/-- 'laws.FnExactHandovers': WHATEVER THE INPUT: true; the input reads as it did. -/
def fnExactHandoversSpec : ChangeSpec := { name := "fnExactHandovers", fn := fun _ => fun
  | [d] => { results := [.lit (.bool true)], args := [d] }
  | _ => none }
def fnExactHandoversRow : OpenClaim := { program := "ytbddghbcgolbnaa", sum := "238441d38a757c47324931a4a7df2acaeafa81eca1f7e0f13c4bbfb5d385b0fc", func := "loop.example/g01020/laws.FnExactHandovers", spec := "fnExactHandovers", inPlace := ["internal/bytealg.IndexByteString", "internal/bytealg.IndexString"], unfollowed := true, recurses := true, named := ["internal/bytealg.MaxLen"], apart := false }
def FnExactHandoversSaid : Prop := fnExactHandoversRow.holds Try.pinned (OpenSpec.ofChange fnExactHandoversSpec)

/-- ITS FALSE NEIGHBOUR: 'it returns false'. Refute it at one input. -/
def fnExactHandoversWrong : ChangeSpec := { name := "fnExactHandovers", fn := fun _ => fun
  | [d] => { results := [.lit (.bool false)], args := [d] }
  | _ => none }
def FnExactHandoversWrongFalsely : Prop := fnExactHandoversRow.holds Try.pinned (OpenSpec.ofChange fnExactHandoversWrong)

/-- 'laws.FnExactSplitHistory': WHATEVER THE INPUT: true; the input reads as it did. -/
def fnExactSplitHistorySpec : ChangeSpec := { name := "fnExactSplitHistory", fn := fun _ => fun
  | [d] => { results := [.lit (.bool true)], args := [d] }
  | _ => none }
def fnExactSplitHistoryRow : OpenClaim := { program := "ytbddghbcgolbnaa", sum := "238441d38a757c47324931a4a7df2acaeafa81eca1f7e0f13c4bbfb5d385b0fc", func := "loop.example/g01020/laws.FnExactSplitHistory", spec := "fnExactSplitHistory", inPlace := ["internal/bytealg.IndexByteString", "internal/bytealg.IndexString"], unfollowed := true, recurses := true, named := ["internal/bytealg.MaxLen"], apart := false }
def FnExactSplitHistorySaid : Prop := fnExactSplitHistoryRow.holds Try.pinned (OpenSpec.ofChange fnExactSplitHistorySpec)

/-- ITS FALSE NEIGHBOUR: 'it returns false'. Refute it at one input. -/
def fnExactSplitHistoryWrong : ChangeSpec := { name := "fnExactSplitHistory", fn := fun _ => fun
  | [d] => { results := [.lit (.bool false)], args := [d] }
  | _ => none }
def FnExactSplitHistoryWrongFalsely : Prop := fnExactSplitHistoryRow.holds Try.pinned (OpenSpec.ofChange fnExactSplitHistoryWrong)

/-- 'laws.FnExactLackingIn': WHATEVER THE INPUT: true; the input reads as it did. -/
def fnExactLackingInSpec : ChangeSpec := { name := "fnExactLackingIn", fn := fun _ => fun
  | [d1, d2] => { results := [.lit (.bool true)], args := [d1, d2] }
  | _ => none }
def fnExactLackingInRow : OpenClaim := { program := "ytbddghbcgolbnaa", sum := "238441d38a757c47324931a4a7df2acaeafa81eca1f7e0f13c4bbfb5d385b0fc", func := "loop.example/g01020/laws.FnExactLackingIn", spec := "fnExactLackingIn", inPlace := ["internal/bytealg.IndexByteString", "internal/bytealg.IndexString"], unfollowed := true, recurses := true, named := ["internal/bytealg.MaxLen"], apart := false }
def FnExactLackingInSaid : Prop := fnExactLackingInRow.holds Try.pinned (OpenSpec.ofChange fnExactLackingInSpec)

/-- ITS FALSE NEIGHBOUR: 'it returns false'. Refute it at one input. -/
def fnExactLackingInWrong : ChangeSpec := { name := "fnExactLackingIn", fn := fun _ => fun
  | [d1, d2] => { results := [.lit (.bool false)], args := [d1, d2] }
  | _ => none }
def FnExactLackingInWrongFalsely : Prop := fnExactLackingInRow.holds Try.pinned (OpenSpec.ofChange fnExactLackingInWrong)

/-- 'laws.FnExactHistoryOf': WHATEVER THE INPUT: true; the input reads as it did. -/
def fnExactHistoryOfSpec : ChangeSpec := { name := "fnExactHistoryOf", fn := fun _ => fun
  | [d1, d2] => { results := [.lit (.bool true)], args := [d1, d2] }
  | _ => none }
def fnExactHistoryOfRow : OpenClaim := { program := "ytbddghbcgolbnaa", sum := "238441d38a757c47324931a4a7df2acaeafa81eca1f7e0f13c4bbfb5d385b0fc", func := "loop.example/g01020/laws.FnExactHistoryOf", spec := "fnExactHistoryOf", inPlace := ["internal/bytealg.IndexByteString", "internal/bytealg.IndexString"], unfollowed := true, recurses := true, named := ["internal/bytealg.MaxLen"], apart := false }
def FnExactHistoryOfSaid : Prop := fnExactHistoryOfRow.holds Try.pinned (OpenSpec.ofChange fnExactHistoryOfSpec)

/-- ITS FALSE NEIGHBOUR: 'it returns false'. Refute it at one input. -/
def fnExactHistoryOfWrong : ChangeSpec := { name := "fnExactHistoryOf", fn := fun _ => fun
  | [d1, d2] => { results := [.lit (.bool false)], args := [d1, d2] }
  | _ => none }
def FnExactHistoryOfWrongFalsely : Prop := fnExactHistoryOfRow.holds Try.pinned (OpenSpec.ofChange fnExactHistoryOfWrong)

/-- 'laws.FnExactMergeHistories': WHATEVER THE INPUT: true; the input reads as it did. -/
def fnExactMergeHistoriesSpec : ChangeSpec := { name := "fnExactMergeHistories", fn := fun _ => fun
  | [d1, d2] => { results := [.lit (.bool true)], args := [d1, d2] }
  | _ => none }
def fnExactMergeHistoriesRow : OpenClaim := { program := "ytbddghbcgolbnaa", sum := "238441d38a757c47324931a4a7df2acaeafa81eca1f7e0f13c4bbfb5d385b0fc", func := "loop.example/g01020/laws.FnExactMergeHistories", spec := "fnExactMergeHistories", inPlace := ["internal/bytealg.IndexByteString", "internal/bytealg.IndexString"], unfollowed := true, recurses := true, named := ["internal/bytealg.MaxLen"], apart := false }
def FnExactMergeHistoriesSaid : Prop := fnExactMergeHistoriesRow.holds Try.pinned (OpenSpec.ofChange fnExactMergeHistoriesSpec)

/-- ITS FALSE NEIGHBOUR: 'it returns false'. Refute it at one input. -/
def fnExactMergeHistoriesWrong : ChangeSpec := { name := "fnExactMergeHistories", fn := fun _ => fun
  | [d1, d2] => { results := [.lit (.bool false)], args := [d1, d2] }
  | _ => none }
def FnExactMergeHistoriesWrongFalsely : Prop := fnExactMergeHistoriesRow.holds Try.pinned (OpenSpec.ofChange fnExactMergeHistoriesWrong)

/- THE SECOND FORM. 'bulk': how many values and letters a reading holds, each counted each time it is reached (what is shared counts as often as it is met; a slice's spare places count too). A statement '..UptoSaid' is the law's where the arguments, and the package variables that the reading takes, are together of bulk at most 1048576: NARROWER than '..Said'. Prove '..Said' where nothing that the law and all that it calls make is longer than what came in: it says more and counts as full. Else prove '..UptoSaid'. A law counts once. -/
mutual
def uptoBulk {H : Type} : DataW H → Nat
  | .lit (.string bytes) => bytes.length + 1
  | .lit _ => 1
  | .nil => 1
  | .ptr d => uptoBulk d + 1
  | .slice elems spare => uptoBulkAll elems + uptoBulkAll spare + 1
  | .agg parts => uptoBulkAll parts + 1
  | .iface _ d => uptoBulk d + 1
  | .map entries => uptoBulkEntries entries + 1
  | .held _ => 1
def uptoBulkAll {H : Type} : List (DataW H) → Nat
  | [] => 0
  | d :: r => uptoBulk d + uptoBulkAll r
def uptoBulkEntries {H : Type} : List (Lit × DataW H) → Nat
  | [] => 0
  | x :: r => uptoBulkEntry x + uptoBulkEntries r
def uptoBulkEntry {H : Type} : Lit × DataW H → Nat
  | (.string bytes, d) => bytes.length + uptoBulk d + 1
  | (_, d) => uptoBulk d + 1
 end
def uptoSmall : (H : Type) → List (DataW H) → Bool := fun _ ds => decide (uptoBulkAll ds ≤ 1048576)
def OpenSpec.upto (s : _root_.Go.ChangeSpec) : _root_.Go.OpenSpec := { _root_.Go.OpenSpec.ofChange s with cond := some uptoSmall }

/-- 'laws.FnExactHandovers', WHERE WHAT IT READS IS OF BULK AT MOST 1048576: true; the input reads as it did. -/
def fnExactHandoversUptoRow : OpenClaim := { program := "ytbddghbcgolbnaa", sum := "238441d38a757c47324931a4a7df2acaeafa81eca1f7e0f13c4bbfb5d385b0fc", func := "loop.example/g01020/laws.FnExactHandovers", spec := "fnExactHandovers", inPlace := ["internal/bytealg.IndexByteString", "internal/bytealg.IndexString"], unfollowed := true, recurses := true, named := ["internal/bytealg.MaxLen"], apart := false, narrowed := true }
def FnExactHandoversUptoSaid : Prop := fnExactHandoversUptoRow.holds Try.pinned (OpenSpec.upto fnExactHandoversSpec)

/-- 'laws.FnExactSplitHistory', WHERE WHAT IT READS IS OF BULK AT MOST 1048576: true; the input reads as it did. -/
def fnExactSplitHistoryUptoRow : OpenClaim := { program := "ytbddghbcgolbnaa", sum := "238441d38a757c47324931a4a7df2acaeafa81eca1f7e0f13c4bbfb5d385b0fc", func := "loop.example/g01020/laws.FnExactSplitHistory", spec := "fnExactSplitHistory", inPlace := ["internal/bytealg.IndexByteString", "internal/bytealg.IndexString"], unfollowed := true, recurses := true, named := ["internal/bytealg.MaxLen"], apart := false, narrowed := true }
def FnExactSplitHistoryUptoSaid : Prop := fnExactSplitHistoryUptoRow.holds Try.pinned (OpenSpec.upto fnExactSplitHistorySpec)

/-- 'laws.FnExactLackingIn', WHERE WHAT IT READS IS OF BULK AT MOST 1048576: true; the input reads as it did. -/
def fnExactLackingInUptoRow : OpenClaim := { program := "ytbddghbcgolbnaa", sum := "238441d38a757c47324931a4a7df2acaeafa81eca1f7e0f13c4bbfb5d385b0fc", func := "loop.example/g01020/laws.FnExactLackingIn", spec := "fnExactLackingIn", inPlace := ["internal/bytealg.IndexByteString", "internal/bytealg.IndexString"], unfollowed := true, recurses := true, named := ["internal/bytealg.MaxLen"], apart := false, narrowed := true }
def FnExactLackingInUptoSaid : Prop := fnExactLackingInUptoRow.holds Try.pinned (OpenSpec.upto fnExactLackingInSpec)

/-- 'laws.FnExactHistoryOf', WHERE WHAT IT READS IS OF BULK AT MOST 1048576: true; the input reads as it did. -/
def fnExactHistoryOfUptoRow : OpenClaim := { program := "ytbddghbcgolbnaa", sum := "238441d38a757c47324931a4a7df2acaeafa81eca1f7e0f13c4bbfb5d385b0fc", func := "loop.example/g01020/laws.FnExactHistoryOf", spec := "fnExactHistoryOf", inPlace := ["internal/bytealg.IndexByteString", "internal/bytealg.IndexString"], unfollowed := true, recurses := true, named := ["internal/bytealg.MaxLen"], apart := false, narrowed := true }
def FnExactHistoryOfUptoSaid : Prop := fnExactHistoryOfUptoRow.holds Try.pinned (OpenSpec.upto fnExactHistoryOfSpec)

/-- 'laws.FnExactMergeHistories', WHERE WHAT IT READS IS OF BULK AT MOST 1048576: true; the input reads as it did. -/
def fnExactMergeHistoriesUptoRow : OpenClaim := { program := "ytbddghbcgolbnaa", sum := "238441d38a757c47324931a4a7df2acaeafa81eca1f7e0f13c4bbfb5d385b0fc", func := "loop.example/g01020/laws.FnExactMergeHistories", spec := "fnExactMergeHistories", inPlace := ["internal/bytealg.IndexByteString", "internal/bytealg.IndexString"], unfollowed := true, recurses := true, named := ["internal/bytealg.MaxLen"], apart := false, narrowed := true }
def FnExactMergeHistoriesUptoSaid : Prop := fnExactMergeHistoriesUptoRow.holds Try.pinned (OpenSpec.upto fnExactMergeHistoriesSpec)

end Rows
end Go.Proofs.Ytbddghbcgolbnaa

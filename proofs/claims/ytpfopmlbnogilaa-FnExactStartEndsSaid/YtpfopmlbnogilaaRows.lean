/-
  No cell of these rows narrows 'for every input' (looked for: loops, veiled, ifaces, maps, wideKeys, modest, calm, conditions, laid).
  DERIVED. THE GIVEN ROWS OF THIS SEAT. 7 by the template 'for every input the law returns true; each argument reads behind the call as it read before'; 0 by the template 'total and deterministic' (their statements: YtpfopmlbnogilaaTotals.lean).
  GIVEN WITH THE SEED: the statements are not yours to turn. If you find one false, say at which input.
  Laid BY PROGRAM, IN A SANDBOX (cutbox-rows.mjs): the forced cells as the released guide's own fill.sh prints them over the translation 03776a288c0c6da6… (all of the seat's roots in one cut). By AI agents, Wed Nov 11 2026. No macro, syntax, notation, axiom, sorry.
-/
import Derived.Test.YtpfopmlbnogilaaChecked
import GoSem.Claim
import GoSem.ClaimJoined
import GoSem.ClaimMapViews
import Derived.JoinedTies
import Derived.KernelRfl
namespace Go.Proofs.Ytpfopmlbnogilaa
/- THE CELL 'sum', in the pinned program and in every row, IS THE sha256 OF THE DUMP (.gsa) THAT YtpfopmlbnogilaaProg.lean LOADS. Nothing in Lean hashes anything: it is a label: what it is worth is what the hold of that sum in a sandbox is worth. -/
noncomputable def Try.pinned : Pinned := { name := "ytpfopmlbnogilaa", sum := "03776a288c0c6da6ed90f4e2601993ab8fbc9ec65ee5a2d0ae8a6cbf820d6751", checked := Try.checked }
namespace Rows
def none {H : Type} : Left H := { results := [], args := [] }

/-- 'laws.FnExactInOrder': WHATEVER THE INPUT: true; the input reads as it did. -/
def fnExactInOrderSpec : ChangeSpec := { name := "fnExactInOrder", fn := fun _ => fun
  | [d1, d2] => { results := [.lit (.bool true)], args := [d1, d2] }
  | _ => none }
def fnExactInOrderRow : OpenClaim := { program := "ytpfopmlbnogilaa", sum := "03776a288c0c6da6ed90f4e2601993ab8fbc9ec65ee5a2d0ae8a6cbf820d6751", func := "loop.example/g01020/laws.FnExactInOrder", spec := "fnExactInOrder", unfollowed := true, recurses := true, apart := false }
def FnExactInOrderSaid : Prop := fnExactInOrderRow.holds Try.pinned (OpenSpec.ofChange fnExactInOrderSpec)

/-- ITS FALSE NEIGHBOUR: 'it returns false'. Refute it at one input. -/
def fnExactInOrderWrong : ChangeSpec := { name := "fnExactInOrder", fn := fun _ => fun
  | [d1, d2] => { results := [.lit (.bool false)], args := [d1, d2] }
  | _ => none }
def FnExactInOrderWrongFalsely : Prop := fnExactInOrderRow.holds Try.pinned (OpenSpec.ofChange fnExactInOrderWrong)

/-- 'laws.FnExactConfirm': WHATEVER THE INPUT: true; the input reads as it did. -/
def fnExactConfirmSpec : ChangeSpec := { name := "fnExactConfirm", fn := fun _ => fun
  | [d1, d2] => { results := [.lit (.bool true)], args := [d1, d2] }
  | _ => none }
def fnExactConfirmRow : OpenClaim := { program := "ytpfopmlbnogilaa", sum := "03776a288c0c6da6ed90f4e2601993ab8fbc9ec65ee5a2d0ae8a6cbf820d6751", func := "loop.example/g01020/laws.FnExactConfirm", spec := "fnExactConfirm", apart := false }
def FnExactConfirmSaid : Prop := fnExactConfirmRow.holds Try.pinned (OpenSpec.ofChange fnExactConfirmSpec)

/-- ITS FALSE NEIGHBOUR: 'it returns false'. Refute it at one input. -/
def fnExactConfirmWrong : ChangeSpec := { name := "fnExactConfirm", fn := fun _ => fun
  | [d1, d2] => { results := [.lit (.bool false)], args := [d1, d2] }
  | _ => none }
def FnExactConfirmWrongFalsely : Prop := fnExactConfirmRow.holds Try.pinned (OpenSpec.ofChange fnExactConfirmWrong)

/-- 'laws.FnExactDeliver': WHATEVER THE INPUT: true; the input reads as it did. -/
def fnExactDeliverSpec : ChangeSpec := { name := "fnExactDeliver", fn := fun _ => fun
  | [d1, d2] => { results := [.lit (.bool true)], args := [d1, d2] }
  | _ => none }
def fnExactDeliverRow : OpenClaim := { program := "ytpfopmlbnogilaa", sum := "03776a288c0c6da6ed90f4e2601993ab8fbc9ec65ee5a2d0ae8a6cbf820d6751", func := "loop.example/g01020/laws.FnExactDeliver", spec := "fnExactDeliver", apart := false }
def FnExactDeliverSaid : Prop := fnExactDeliverRow.holds Try.pinned (OpenSpec.ofChange fnExactDeliverSpec)

/-- ITS FALSE NEIGHBOUR: 'it returns false'. Refute it at one input. -/
def fnExactDeliverWrong : ChangeSpec := { name := "fnExactDeliver", fn := fun _ => fun
  | [d1, d2] => { results := [.lit (.bool false)], args := [d1, d2] }
  | _ => none }
def FnExactDeliverWrongFalsely : Prop := fnExactDeliverRow.holds Try.pinned (OpenSpec.ofChange fnExactDeliverWrong)

/-- 'laws.FnExactSendMessage': WHATEVER THE INPUT: true; the input reads as it did. -/
def fnExactSendMessageSpec : ChangeSpec := { name := "fnExactSendMessage", fn := fun _ => fun
  | [d1, d2, d3] => { results := [.lit (.bool true)], args := [d1, d2, d3] }
  | _ => none }
def fnExactSendMessageRow : OpenClaim := { program := "ytpfopmlbnogilaa", sum := "03776a288c0c6da6ed90f4e2601993ab8fbc9ec65ee5a2d0ae8a6cbf820d6751", func := "loop.example/g01020/laws.FnExactSendMessage", spec := "fnExactSendMessage", apart := false }
def FnExactSendMessageSaid : Prop := fnExactSendMessageRow.holds Try.pinned (OpenSpec.ofChange fnExactSendMessageSpec)

/-- ITS FALSE NEIGHBOUR: 'it returns false'. Refute it at one input. -/
def fnExactSendMessageWrong : ChangeSpec := { name := "fnExactSendMessage", fn := fun _ => fun
  | [d1, d2, d3] => { results := [.lit (.bool false)], args := [d1, d2, d3] }
  | _ => none }
def FnExactSendMessageWrongFalsely : Prop := fnExactSendMessageRow.holds Try.pinned (OpenSpec.ofChange fnExactSendMessageWrong)

/-- 'laws.FnExactRunDeliveries': WHATEVER THE INPUT: true; the input reads as it did. -/
def fnExactRunDeliveriesSpec : ChangeSpec := { name := "fnExactRunDeliveries", fn := fun _ => fun
  | [d1, d2] => { results := [.lit (.bool true)], args := [d1, d2] }
  | _ => none }
def fnExactRunDeliveriesRow : OpenClaim := { program := "ytpfopmlbnogilaa", sum := "03776a288c0c6da6ed90f4e2601993ab8fbc9ec65ee5a2d0ae8a6cbf820d6751", func := "loop.example/g01020/laws.FnExactRunDeliveries", spec := "fnExactRunDeliveries", apart := false }
def FnExactRunDeliveriesSaid : Prop := fnExactRunDeliveriesRow.holds Try.pinned (OpenSpec.ofChange fnExactRunDeliveriesSpec)

/-- ITS FALSE NEIGHBOUR: 'it returns false'. Refute it at one input. -/
def fnExactRunDeliveriesWrong : ChangeSpec := { name := "fnExactRunDeliveries", fn := fun _ => fun
  | [d1, d2] => { results := [.lit (.bool false)], args := [d1, d2] }
  | _ => none }
def FnExactRunDeliveriesWrongFalsely : Prop := fnExactRunDeliveriesRow.holds Try.pinned (OpenSpec.ofChange fnExactRunDeliveriesWrong)

/-- 'laws.FnChannels': WHATEVER THE INPUT: true; the input reads as it did. -/
def fnChannelsSpec : ChangeSpec := { name := "fnChannels", fn := fun _ => fun
  | [d1, d2] => { results := [.lit (.bool true)], args := [d1, d2] }
  | _ => none }
def fnChannelsRow : OpenClaim := { program := "ytpfopmlbnogilaa", sum := "03776a288c0c6da6ed90f4e2601993ab8fbc9ec65ee5a2d0ae8a6cbf820d6751", func := "loop.example/g01020/laws.FnChannels", spec := "fnChannels", unfollowed := true, recurses := true, apart := false }
def FnChannelsSaid : Prop := fnChannelsRow.holds Try.pinned (OpenSpec.ofChange fnChannelsSpec)

/-- ITS FALSE NEIGHBOUR: 'it returns false'. Refute it at one input. -/
def fnChannelsWrong : ChangeSpec := { name := "fnChannels", fn := fun _ => fun
  | [d1, d2] => { results := [.lit (.bool false)], args := [d1, d2] }
  | _ => none }
def FnChannelsWrongFalsely : Prop := fnChannelsRow.holds Try.pinned (OpenSpec.ofChange fnChannelsWrong)

/-- 'laws.FnExactStartEnds': WHATEVER THE INPUT: true; the input reads as it did. -/
def fnExactStartEndsSpec : ChangeSpec := { name := "fnExactStartEnds", fn := fun _ => fun
  | [d] => { results := [.lit (.bool true)], args := [d] }
  | _ => none }
def fnExactStartEndsRow : OpenClaim := { program := "ytpfopmlbnogilaa", sum := "03776a288c0c6da6ed90f4e2601993ab8fbc9ec65ee5a2d0ae8a6cbf820d6751", func := "loop.example/g01020/laws.FnExactStartEnds", spec := "fnExactStartEnds", apart := false }
def FnExactStartEndsSaid : Prop := fnExactStartEndsRow.holds Try.pinned (OpenSpec.ofChange fnExactStartEndsSpec)

/-- ITS FALSE NEIGHBOUR: 'it returns false'. Refute it at one input. -/
def fnExactStartEndsWrong : ChangeSpec := { name := "fnExactStartEnds", fn := fun _ => fun
  | [d] => { results := [.lit (.bool false)], args := [d] }
  | _ => none }
def FnExactStartEndsWrongFalsely : Prop := fnExactStartEndsRow.holds Try.pinned (OpenSpec.ofChange fnExactStartEndsWrong)

/- THE SECOND FORM. 'bulk': how many values and letters a reading holds, each counted each time it is reached (what is shared counts as often as it is met; a slice's spare places count too). A statement '..UptoSaid' is the law's where the arguments, and the package variables that the reading takes, are together of bulk at most 1048576: NARROWER than '..Said'. Prove '..Said' where nothing that the law and all that it calls make is longer than what came in: it says more and counts as full. Else prove '..UptoSaid'. A law counts once. -/
mutual
def uptoBulk {H : Type} : DataW H → Nat
  | .lit (.string bytes) => bytes.length + 1
  | .lit _ => 1
  | .nil => 1
  | .ptr d => uptoBulk d + 1
  | .slice elems spare => uptoBulkAll elems + uptoBulkAll spare + 1
  | .agg parts => uptoBulkAll parts + 1
  | .iface _ d => uptoBulk d + 1
  | .map entries => uptoBulkEntries entries + 1
  | .held _ => 1
def uptoBulkAll {H : Type} : List (DataW H) → Nat
  | [] => 0
  | d :: r => uptoBulk d + uptoBulkAll r
def uptoBulkEntries {H : Type} : List (Lit × DataW H) → Nat
  | [] => 0
  | x :: r => uptoBulkEntry x + uptoBulkEntries r
def uptoBulkEntry {H : Type} : Lit × DataW H → Nat
  | (.string bytes, d) => bytes.length + uptoBulk d + 1
  | (_, d) => uptoBulk d + 1
 end
def uptoSmall : (H : Type) → List (DataW H) → Bool := fun _ ds => decide (uptoBulkAll ds ≤ 1048576)
def OpenSpec.upto (s : _root_.Go.ChangeSpec) : _root_.Go.OpenSpec := { _root_.Go.OpenSpec.ofChange s with cond := some uptoSmall }

/-- 'laws.FnExactInOrder', WHERE WHAT IT READS IS OF BULK AT MOST 1048576: true; the input reads as it did. -/
def fnExactInOrderUptoRow : OpenClaim := { program := "ytpfopmlbnogilaa", sum := "03776a288c0c6da6ed90f4e2601993ab8fbc9ec65ee5a2d0ae8a6cbf820d6751", func := "loop.example/g01020/laws.FnExactInOrder", spec := "fnExactInOrder", unfollowed := true, recurses := true, apart := false, narrowed := true }
def FnExactInOrderUptoSaid : Prop := fnExactInOrderUptoRow.holds Try.pinned (OpenSpec.upto fnExactInOrderSpec)

/-- 'laws.FnExactConfirm', WHERE WHAT IT READS IS OF BULK AT MOST 1048576: true; the input reads as it did. -/
def fnExactConfirmUptoRow : OpenClaim := { program := "ytpfopmlbnogilaa", sum := "03776a288c0c6da6ed90f4e2601993ab8fbc9ec65ee5a2d0ae8a6cbf820d6751", func := "loop.example/g01020/laws.FnExactConfirm", spec := "fnExactConfirm", apart := false, narrowed := true }
def FnExactConfirmUptoSaid : Prop := fnExactConfirmUptoRow.holds Try.pinned (OpenSpec.upto fnExactConfirmSpec)

/-- 'laws.FnExactDeliver', WHERE WHAT IT READS IS OF BULK AT MOST 1048576: true; the input reads as it did. -/
def fnExactDeliverUptoRow : OpenClaim := { program := "ytpfopmlbnogilaa", sum := "03776a288c0c6da6ed90f4e2601993ab8fbc9ec65ee5a2d0ae8a6cbf820d6751", func := "loop.example/g01020/laws.FnExactDeliver", spec := "fnExactDeliver", apart := false, narrowed := true }
def FnExactDeliverUptoSaid : Prop := fnExactDeliverUptoRow.holds Try.pinned (OpenSpec.upto fnExactDeliverSpec)

/-- 'laws.FnExactSendMessage', WHERE WHAT IT READS IS OF BULK AT MOST 1048576: true; the input reads as it did. -/
def fnExactSendMessageUptoRow : OpenClaim := { program := "ytpfopmlbnogilaa", sum := "03776a288c0c6da6ed90f4e2601993ab8fbc9ec65ee5a2d0ae8a6cbf820d6751", func := "loop.example/g01020/laws.FnExactSendMessage", spec := "fnExactSendMessage", apart := false, narrowed := true }
def FnExactSendMessageUptoSaid : Prop := fnExactSendMessageUptoRow.holds Try.pinned (OpenSpec.upto fnExactSendMessageSpec)

/-- 'laws.FnExactRunDeliveries', WHERE WHAT IT READS IS OF BULK AT MOST 1048576: true; the input reads as it did. -/
def fnExactRunDeliveriesUptoRow : OpenClaim := { program := "ytpfopmlbnogilaa", sum := "03776a288c0c6da6ed90f4e2601993ab8fbc9ec65ee5a2d0ae8a6cbf820d6751", func := "loop.example/g01020/laws.FnExactRunDeliveries", spec := "fnExactRunDeliveries", apart := false, narrowed := true }
def FnExactRunDeliveriesUptoSaid : Prop := fnExactRunDeliveriesUptoRow.holds Try.pinned (OpenSpec.upto fnExactRunDeliveriesSpec)

/-- 'laws.FnChannels', WHERE WHAT IT READS IS OF BULK AT MOST 1048576: true; the input reads as it did. -/
def fnChannelsUptoRow : OpenClaim := { program := "ytpfopmlbnogilaa", sum := "03776a288c0c6da6ed90f4e2601993ab8fbc9ec65ee5a2d0ae8a6cbf820d6751", func := "loop.example/g01020/laws.FnChannels", spec := "fnChannels", unfollowed := true, recurses := true, apart := false, narrowed := true }
def FnChannelsUptoSaid : Prop := fnChannelsUptoRow.holds Try.pinned (OpenSpec.upto fnChannelsSpec)

/-- 'laws.FnExactStartEnds', WHERE WHAT IT READS IS OF BULK AT MOST 1048576: true; the input reads as it did. -/
def fnExactStartEndsUptoRow : OpenClaim := { program := "ytpfopmlbnogilaa", sum := "03776a288c0c6da6ed90f4e2601993ab8fbc9ec65ee5a2d0ae8a6cbf820d6751", func := "loop.example/g01020/laws.FnExactStartEnds", spec := "fnExactStartEnds", apart := false, narrowed := true }
def FnExactStartEndsUptoSaid : Prop := fnExactStartEndsUptoRow.holds Try.pinned (OpenSpec.upto fnExactStartEndsSpec)

end Rows
end Go.Proofs.Ytpfopmlbnogilaa

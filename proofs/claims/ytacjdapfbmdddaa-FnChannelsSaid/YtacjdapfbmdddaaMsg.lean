/- Messages in memory, and the law's own helpers over them: copying, measuring, comparing, marking. No conditions. -/
import Derived.Test.YtacjdapfbmdddaaMem
import Derived.StillTailTactics
import Derived.Deep.RegionHeld3
import Derived.OwnWalk
namespace Go.Proofs.Ytacjdapfbmdddaa
open Go.RowKit

structure Msg where
  f : ByteArray
  n : Int
  b : ByteArray
def Msg.cells (e : Msg) : List Value := [.string e.f, .int .i64 e.n, .string e.b]
theorem Msg.len (e : Msg) : e.cells.length = 3 := rfl
abbrev Msgs (w : World) (lo hi : Nat) (A : Option Addr) (l : List Msg) : Prop := Sl Msg.cells 3 w lo hi A l

theorem Msg.info : (Try.prog.info? 33).map (fun i => (i.zero, i.size, i.bytes)) = some (some (.agg #[.string ⟨#[]⟩, .int .i64 0, .string ⟨#[]⟩]), 3, 40) := by kernel_rfl
end Go.Proofs.Ytacjdapfbmdddaa

/- Appliances in memory, and the law's own helpers over them: copying, measuring, comparing, marking. No conditions. -/
import Derived.Test.YtacjdapfbmdddaaMem
import Derived.StillTailTactics
import Derived.Deep.RegionHeld3
import Derived.OwnWalk
namespace Go.Proofs.Ytacjdapfbmdddaa
open Go.RowKit

structure App where
  nm : ByteArray
  kd : Int
  nd : Int
  cw : Int
  st : Int
def App.cells (e : App) : List Value := [.string e.nm, .int .i64 e.kd, .int .i64 e.nd, .int .i64 e.cw, .int .i64 e.st]
theorem App.len (e : App) : e.cells.length = 5 := rfl
abbrev Apps (w : World) (lo hi : Nat) (A : Option Addr) (l : List App) : Prop := Sl App.cells 5 w lo hi A l

end Go.Proofs.Ytacjdapfbmdddaa

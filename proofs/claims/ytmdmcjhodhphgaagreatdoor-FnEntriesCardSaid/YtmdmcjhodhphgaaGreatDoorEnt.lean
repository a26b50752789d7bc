/- Entries in memory, and the law's own helpers over them: copying, measuring, comparing, marking. No conditions. -/
import Derived.Test.YtmdmcjhodhphgaaGreatDoorMem
import Derived.StillTailTactics
import Derived.Deep.RegionHeld3
import Derived.OwnWalk
namespace Go.Proofs.YtmdmcjhodhphgaaGreatDoor
open Go.RowKit

structure Ent where
  r : Int
  n : Int
  m : Int
  t : ByteArray
def Ent.cells (e : Ent) : List Value := [.int .i64 e.r, .int .i64 e.n, .int .i64 e.m, .string e.t]
theorem Ent.len (e : Ent) : e.cells.length = 4 := rfl
abbrev Ents (w : World) (lo hi : Nat) (A : Option Addr) (l : List Ent) : Prop := Sl Ent.cells 4 w lo hi A l

theorem Ent.info : (Tryz.prog.info? 33).map (fun i => (i.zero, i.size, i.bytes)) = some (some (.agg #[.int .i64 0, .int .i64 0, .int .i64 0, .string ⟨#[]⟩]), 4, 40) := by kernel_rfl
end Go.Proofs.YtmdmcjhodhphgaaGreatDoor

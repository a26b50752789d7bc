/- The exported tests of logs. Conditions as in Log. -/
import Derived.Test.YtmdmcjhodhphgaaGreatDoorLog
namespace Go.Proofs.YtmdmcjhodhphgaaGreatDoor
open Go.RowKit
theorem IsLog_impl (A : Option Addr) (c : Nat) (l : List Ent) (w : World) (hl : l.length ≤ maxLen) (hm : ∀ x ∈ l, x.t.size ≤ maxLen) (hS : Ents w 0 w.heap.size A l) :
    Calls Tryz.prog 11 #[.slice A l.length c] w (RV w (.bool (logB l))) := by
  go_enter Tryz.func11, Tryz.ntmps11
  go_wp2_with fail
  refine (isLog_any A c l _ hl hm hS).mono ?_
  rintro e w1 ⟨rfl, hb⟩
  have hB : Below w.heap.size w w1 := Below.on' (by go_grown) hb
  go_wp2
  go_ret
  exact RV.mk rfl hB
end Go.Proofs.YtmdmcjhodhphgaaGreatDoor

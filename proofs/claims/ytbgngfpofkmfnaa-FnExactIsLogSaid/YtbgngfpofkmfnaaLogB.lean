/- The exported tests of logs. Conditions as in Log. -/
import Derived.Test.YtbgngfpofkmfnaaLog
namespace Go.Proofs.Ytbgngfpofkmfnaa
open Go.RowKit
theorem IsLog_spec (A : Option Addr) (c : Nat) (l : List Ent) (w : World) (hl : l.length ≤ maxLen) (hm : ∀ x ∈ l, x.t.size ≤ maxLen) (hS : Ents w 0 w.heap.size A l) :
    Calls Try.prog 20 #[.slice A l.length c] w (RV w (.bool (logB l))) := by
  go_enter Try.func20, Try.ntmps20
  go_wp2_with fail
  refine (lgGood_any A c l _ hl hm hS).mono ?_
  rintro e w1 ⟨rfl, hb⟩
  have hB : Below w.heap.size w w1 := Below.on' (by go_grown) hb
  go_wp2
  go_ret
  exact RV.mk rfl hB
theorem IsLog_impl (A : Option Addr) (c : Nat) (l : List Ent) (w : World) (hl : l.length ≤ maxLen) (hm : ∀ x ∈ l, x.t.size ≤ maxLen) (hS : Ents w 0 w.heap.size A l) :
    Calls Try.prog 22 #[.slice A l.length c] w (RV w (.bool (logB l))) := by
  go_enter Try.func22, Try.ntmps22
  go_wp2_with fail
  refine (isLog_any A c l _ hl hm hS).mono ?_
  rintro e w1 ⟨rfl, hb⟩
  have hB : Below w.heap.size w w1 := Below.on' (by go_grown) hb
  go_wp2
  go_ret
  exact RV.mk rfl hB
end Go.Proofs.Ytbgngfpofkmfnaa

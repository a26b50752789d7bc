/- Numbers within bounds, as the program and the reference test them. No conditions. -/
import Derived.Test.YtacjdapfbmdddaaDoorBase
namespace Go.Proofs.YtacjdapfbmdddaaDoor
open Go.RowKit

def inB (n a b : Int) : Bool := decide (a ≤ n) && decide (n ≤ b)
def minB (m : Int) : Bool := inB m 0 99999
def roomB (r : Int) : Bool := inB r 1 2

theorem inside_any (n a b : Int) (w : World) : Calls Tryd.prog 28 #[.int .i64 n, .int .i64 a, .int .i64 b] w (RV w (.bool (inB n a b))) := by
  go_enter Tryd.func28, Tryd.ntmps28
  go_wp2
  all_goals go_ret
  all_goals exact RV.mk (vbool (by rw [Bool.eq_iff_iff]; first | (simp [inB] <;> omega) | (simp_all [inB] <;> omega))) (by go_grown)
theorem l1In_any (n a b : Int) (w : World) : Calls Tryd.prog 49 #[.int .i64 n, .int .i64 a, .int .i64 b] w (RV w (.bool (inB n a b))) := by
  go_enter Tryd.func49, Tryd.ntmps49
  go_wp2
  all_goals go_ret
  all_goals exact RV.mk (vbool (by rw [Bool.eq_iff_iff]; first | (simp [inB] <;> omega) | (simp_all [inB] <;> omega))) (by go_grown)
theorem isLogMinute_any (m : Int) (w : World) : Calls Tryd.prog 39 #[.int .i64 m] w (RV w (.bool (minB m))) := by
  go_enter Tryd.func39, Tryd.ntmps39
  go_wp2
  all_goals go_ret
  all_goals exact RV.mk (vbool (by rw [Bool.eq_iff_iff]; first | (simp [minB, inB] <;> omega) | (simp_all [minB, inB] <;> omega))) (by go_grown)
theorem isRoom_any (m : Int) (w : World) : Calls Tryd.prog 38 #[.int .i64 m] w (RV w (.bool (roomB m))) := by
  go_enter Tryd.func38, Tryd.ntmps38
  go_wp2
  all_goals go_ret
  all_goals exact RV.mk (vbool (by rw [Bool.eq_iff_iff]; first | (simp [roomB, inB] <;> omega) | (simp_all [roomB, inB] <;> omega))) (by go_grown)

end Go.Proofs.YtacjdapfbmdddaaDoor

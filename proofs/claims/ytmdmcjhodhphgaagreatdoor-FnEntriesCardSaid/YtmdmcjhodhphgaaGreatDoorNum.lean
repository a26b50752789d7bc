/- Numbers within bounds, as the program and the reference test them. No conditions. -/
import Derived.Test.YtmdmcjhodhphgaaGreatDoorBase
namespace Go.Proofs.YtmdmcjhodhphgaaGreatDoor
open Go.RowKit

def inB (n a b : Int) : Bool := decide (a ≤ n) && decide (n ≤ b)
def minB (m : Int) : Bool := inB m 0 99999
def roomB (r : Int) : Bool := inB r 1 2

theorem inside_any (n a b : Int) (w : World) : Calls Tryz.prog 57 #[.int .i64 n, .int .i64 a, .int .i64 b] w (RV w (.bool (inB n a b))) := by
  go_enter Tryz.func57, Tryz.ntmps57
  go_wp2
  all_goals go_ret
  all_goals exact RV.mk (vbool (by rw [Bool.eq_iff_iff]; first | (simp [inB] <;> omega) | (simp_all [inB] <;> omega))) (by go_grown)
theorem l1In_any (n a b : Int) (w : World) : Calls Tryz.prog 63 #[.int .i64 n, .int .i64 a, .int .i64 b] w (RV w (.bool (inB n a b))) := by
  go_enter Tryz.func63, Tryz.ntmps63
  go_wp2
  all_goals go_ret
  all_goals exact RV.mk (vbool (by rw [Bool.eq_iff_iff]; first | (simp [inB] <;> omega) | (simp_all [inB] <;> omega))) (by go_grown)
theorem lgMinute_any (m : Int) (w : World) : Calls Tryz.prog 78 #[.int .i64 m] w (RV w (.bool (minB m))) := by
  go_enter Tryz.func78, Tryz.ntmps78
  go_wp2
  all_goals go_ret
  all_goals exact RV.mk (vbool (by rw [Bool.eq_iff_iff]; first | (simp [minB, inB] <;> omega) | (simp_all [minB, inB] <;> omega))) (by go_grown)
theorem isLogMinute_any (m : Int) (w : World) : Calls Tryz.prog 52 #[.int .i64 m] w (RV w (.bool (minB m))) := by
  go_enter Tryz.func52, Tryz.ntmps52
  go_wp2
  all_goals go_ret
  all_goals exact RV.mk (vbool (by rw [Bool.eq_iff_iff]; first | (simp [minB, inB] <;> omega) | (simp_all [minB, inB] <;> omega))) (by go_grown)
theorem lgRoom_any (m : Int) (w : World) : Calls Tryz.prog 107 #[.int .i64 m] w (RV w (.bool (roomB m))) := by
  go_enter Tryz.func107, Tryz.ntmps107
  go_wp2
  all_goals go_ret
  all_goals exact RV.mk (vbool (by rw [Bool.eq_iff_iff]; first | (simp [roomB, inB] <;> omega) | (simp_all [roomB, inB] <;> omega))) (by go_grown)
theorem isRoom_any (m : Int) (w : World) : Calls Tryz.prog 51 #[.int .i64 m] w (RV w (.bool (roomB m))) := by
  go_enter Tryz.func51, Tryz.ntmps51
  go_wp2
  all_goals go_ret
  all_goals exact RV.mk (vbool (by rw [Bool.eq_iff_iff]; first | (simp [roomB, inB] <;> omega) | (simp_all [roomB, inB] <;> omega))) (by go_grown)

end Go.Proofs.YtmdmcjhodhphgaaGreatDoor

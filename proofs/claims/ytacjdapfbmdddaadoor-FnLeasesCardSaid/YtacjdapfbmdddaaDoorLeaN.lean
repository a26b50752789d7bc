/- The leases: what each small function of the program and of the reference returns. No conditions. -/
import Derived.Test.YtacjdapfbmdddaaDoorNum
namespace Go.Proofs.YtacjdapfbmdddaaDoor
open Go.RowKit

def leaseB (h u : Int) : Bool := inB h 0 2 && minB u && (decide (0 < h) || decide (u = 0))
def asksB (h u r m s : Int) : Bool := leaseB h u && roomB r && minB m && inB s 0 10
def heldB (h u r m s : Int) : Bool := decide (h = r) && decide (wrap64 (m + s) < u)
theorem leMinute_any (m : Int) (w : World) : Calls Tryd.prog 40 #[.int .i64 m] w (RV w (.bool (minB m))) := by
  go_enter Tryd.func40, Tryd.ntmps40
  go_wp2
  all_goals go_ret
  all_goals exact RV.mk (vbool (by rw [Bool.eq_iff_iff]; first | (simp [minB, inB] <;> omega) | (simp_all [minB, inB] <;> omega))) (by go_grown)
theorem leRoom_any (m : Int) (w : World) : Calls Tryd.prog 48 #[.int .i64 m] w (RV w (.bool (roomB m))) := by
  go_enter Tryd.func48, Tryd.ntmps48
  go_wp2
  all_goals go_ret
  all_goals exact RV.mk (vbool (by rw [Bool.eq_iff_iff]; first | (simp [roomB, inB] <;> omega) | (simp_all [roomB, inB] <;> omega))) (by go_grown)
theorem isLease_any (h u : Int) (w : World) : Calls Tryd.prog 37 #[.agg #[.int .i64 h, .int .i64 u]] w (RV w (.bool (leaseB h u))) := by
  go_enter Tryd.func37, Tryd.ntmps37
  go_wp2
  all_goals go_ret
  all_goals exact RV.mk (vbool (by rw [Bool.eq_iff_iff]; first | (simp [leaseB, minB, inB] <;> omega) | (simp_all [leaseB, minB, inB] <;> omega))) (by go_grown)
theorem leGood_any (h u : Int) (w : World) : Calls Tryd.prog 41 #[.agg #[.int .i64 h, .int .i64 u]] w (RV w (.bool (leaseB h u))) := by
  go_enter Tryd.func41, Tryd.ntmps41
  go_wp2
  all_goals go_ret
  all_goals exact RV.mk (vbool (by rw [Bool.eq_iff_iff]; first | (simp [leaseB, minB, inB] <;> omega) | (simp_all [leaseB, minB, inB] <;> omega))) (by go_grown)
theorem IsLease_impl (h u : Int) (w : World) : Calls Tryd.prog 21 #[.agg #[.int .i64 h, .int .i64 u]] w (RV w (.bool (leaseB h u))) := by
  go_enter Tryd.func21, Tryd.ntmps21
  go_wp2_with (go_at_call 37; refine (isLease_any _ _ _).mono ?_; rintro e w1 ⟨rfl, hb⟩)
  go_ret
  exact RV.mk rfl (by refine Below.on ?_ ?_ hb <;> go_grown)
end Go.Proofs.YtacjdapfbmdddaaDoor

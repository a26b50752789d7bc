/- The leases: what each small function of the program and of the reference returns, as plain functions on integers. No conditions. -/
import Derived.Test.YtdponfmhpedccaaBase
namespace Go.Proofs.Ytdponfmhpedccaa
open Go.RowKit

def inB (n a b : Int) : Bool := decide (a ≤ n) && decide (n ≤ b)
def minB (m : Int) : Bool := inB m 0 99999
def roomB (r : Int) : Bool := inB r 1 2
def leaseB (h u : Int) : Bool := inB h 0 2 && minB u && (decide (0 < h) || decide (u = 0))
def asksB (h u r m s : Int) : Bool := leaseB h u && roomB r && minB m && inB s 0 10
def heldB (h u r m s : Int) : Bool := decide (h = r) && decide (wrap64 (m + s) < u)

theorem inside_any (n a b : Int) (w : World) : Calls Try.prog 55 #[.int .i64 n, .int .i64 a, .int .i64 b] w (RV w (.bool (inB n a b))) := by
  go_enter Try.func55, Try.ntmps55
  go_wp2
  all_goals go_ret
  all_goals exact RV.mk (vbool (by rw [Bool.eq_iff_iff]; first | (simp [inB] <;> omega) | (simp_all [inB] <;> omega))) (by go_grown)
theorem l1In_any (n a b : Int) (w : World) : Calls Try.prog 69 #[.int .i64 n, .int .i64 a, .int .i64 b] w (RV w (.bool (inB n a b))) := by
  go_enter Try.func69, Try.ntmps69
  go_wp2
  all_goals go_ret
  all_goals exact RV.mk (vbool (by rw [Bool.eq_iff_iff]; first | (simp [inB] <;> omega) | (simp_all [inB] <;> omega))) (by go_grown)
theorem leMinute_any (m : Int) (w : World) : Calls Try.prog 48 #[.int .i64 m] w (RV w (.bool (minB m))) := by
  go_enter Try.func48, Try.ntmps48
  go_wp2
  all_goals go_ret
  all_goals exact RV.mk (vbool (by rw [Bool.eq_iff_iff]; first | (simp [minB, inB] <;> omega) | (simp_all [minB, inB] <;> omega))) (by go_grown)
theorem isLogMinute_any (m : Int) (w : World) : Calls Try.prog 49 #[.int .i64 m] w (RV w (.bool (minB m))) := by
  go_enter Try.func49, Try.ntmps49
  go_wp2
  all_goals go_ret
  all_goals exact RV.mk (vbool (by rw [Bool.eq_iff_iff]; first | (simp [minB, inB] <;> omega) | (simp_all [minB, inB] <;> omega))) (by go_grown)
theorem leRoom_any (m : Int) (w : World) : Calls Try.prog 68 #[.int .i64 m] w (RV w (.bool (roomB m))) := by
  go_enter Try.func68, Try.ntmps68
  go_wp2
  all_goals go_ret
  all_goals exact RV.mk (vbool (by rw [Bool.eq_iff_iff]; first | (simp [roomB, inB] <;> omega) | (simp_all [roomB, inB] <;> omega))) (by go_grown)
theorem isRoom_any (m : Int) (w : World) : Calls Try.prog 54 #[.int .i64 m] w (RV w (.bool (roomB m))) := by
  go_enter Try.func54, Try.ntmps54
  go_wp2
  all_goals go_ret
  all_goals exact RV.mk (vbool (by rw [Bool.eq_iff_iff]; first | (simp [roomB, inB] <;> omega) | (simp_all [roomB, inB] <;> omega))) (by go_grown)
theorem isLease_any (h u : Int) (w : World) : Calls Try.prog 47 #[.agg #[.int .i64 h, .int .i64 u]] w (RV w (.bool (leaseB h u))) := by
  go_enter Try.func47, Try.ntmps47
  go_wp2
  all_goals go_ret
  all_goals exact RV.mk (vbool (by rw [Bool.eq_iff_iff]; first | (simp [leaseB, minB, inB] <;> omega) | (simp_all [leaseB, minB, inB] <;> omega))) (by go_grown)
theorem leGood_any (h u : Int) (w : World) : Calls Try.prog 46 #[.agg #[.int .i64 h, .int .i64 u]] w (RV w (.bool (leaseB h u))) := by
  go_enter Try.func46, Try.ntmps46
  go_wp2
  all_goals go_ret
  all_goals exact RV.mk (vbool (by rw [Bool.eq_iff_iff]; first | (simp [leaseB, minB, inB] <;> omega) | (simp_all [leaseB, minB, inB] <;> omega))) (by go_grown)

theorem IsLease_impl (h u : Int) (w : World) : Calls Try.prog 15 #[.agg #[.int .i64 h, .int .i64 u]] w (RV w (.bool (leaseB h u))) := by
  go_enter Try.func15, Try.ntmps15
  go_wp2_with (go_at_call 47; refine (isLease_any _ _ _).mono ?_; rintro e w1 ⟨rfl, hb⟩)
  go_ret
  exact RV.mk rfl (by refine Below.on ?_ ?_ hb <;> go_grown)
theorem IsLease_spec (h u : Int) (w : World) : Calls Try.prog 13 #[.agg #[.int .i64 h, .int .i64 u]] w (RV w (.bool (leaseB h u))) := by
  go_enter Try.func13, Try.ntmps13
  go_wp2_with (go_at_call 46; refine (leGood_any _ _ _).mono ?_; rintro e w1 ⟨rfl, hb⟩)
  go_ret
  exact RV.mk rfl (by refine Below.on ?_ ?_ hb <;> go_grown)
theorem toLease_any (h u : Int) (w : World) : Calls Try.prog 14 #[.agg #[.int .i64 h, .int .i64 u]] w (RV w (.agg #[.int .i64 h, .int .i64 u])) := by
  go_enter Try.func14, Try.ntmps14
  go_wp2
  go_returns
  exact RV.mk rfl (by go_grown)
theorem eqLease_same (h u : Int) (w : World) : Calls Try.prog 24 #[.agg #[.int .i64 h, .int .i64 u], .agg #[.int .i64 h, .int .i64 u]] w (RV w (.bool true)) := by
  go_enter Try.func24, Try.ntmps24
  go_wp2
  go_ret
  exact RV.mk rfl (by go_grown)
end Go.Proofs.Ytdponfmhpedccaa

/- Numbers within bounds, as the program and the reference test them. No conditions. -/
import Derived.Test.YtacjdapfbmdddaaBase
namespace Go.Proofs.Ytacjdapfbmdddaa
open Go.RowKit

def inB (n a b : Int) : Bool := decide (a ≤ n) && decide (n ≤ b)
def minB (m : Int) : Bool := inB m 0 99999
def roomB (r : Int) : Bool := inB r 1 2

theorem inside_any (n a b : Int) (w : World) : Calls Try.prog 49 #[.int .i64 n, .int .i64 a, .int .i64 b] w (RV w (.bool (inB n a b))) := by
  go_enter Try.func49, Try.ntmps49
  go_wp2
  all_goals go_ret
  all_goals exact RV.mk (vbool (by rw [Bool.eq_iff_iff]; first | (simp [inB] <;> omega) | (simp_all [inB] <;> omega))) (by go_grown)
theorem l1In_any (n a b : Int) (w : World) : Calls Try.prog 52 #[.int .i64 n, .int .i64 a, .int .i64 b] w (RV w (.bool (inB n a b))) := by
  go_enter Try.func52, Try.ntmps52
  go_wp2
  all_goals go_ret
  all_goals exact RV.mk (vbool (by rw [Bool.eq_iff_iff]; first | (simp [inB] <;> omega) | (simp_all [inB] <;> omega))) (by go_grown)

end Go.Proofs.Ytacjdapfbmdddaa

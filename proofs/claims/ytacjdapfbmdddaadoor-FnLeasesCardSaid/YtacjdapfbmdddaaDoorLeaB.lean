/- The leases, second text: what taking, renewing and giving a lease return. No conditions. -/
import Derived.Test.YtacjdapfbmdddaaDoorLeaN
namespace Go.Proofs.YtacjdapfbmdddaaDoor
open Go.RowKit

def lenB (l : Int) : Bool := inB l 1 600
def kindB (k : Int) : Bool := inB k 0 3
def askB (m r k : Int) : Bool := minB m && roomB r && kindB k
def leaseRes (h u : Int) : (Int × Int) × Bool := if leaseB h u = true then ((h, u), true) else ((0, 0), false)
def overB (u m s : Int) : Bool := decide (wrap64 (u + s) ≤ m)
def maxI (a b : Int) : Int := if a < b then b else a
theorem minB0 : minB 0 = true := by decide
def holdF (h u m : Int) : Int × Bool := if (leaseB h u && minB m) = true then (if m < u then (h, true) else (0, true)) else (0, false)
def mayF (h u r m s : Int) : Bool × Bool := if asksB h u r m s = true then (heldB h u r m s, true) else (false, false)
def giveF (h u r m s : Int) : (Int × Int) × Bool := ((0, 0), asksB h u r m s && heldB h u r m s)
def takeG (h u r m s l : Int) : (Int × Int) × Bool := if h = 0 ∨ h = r ∨ overB u m s = true then leaseRes r (wrap64 (m + l)) else ((0, 0), false)
def takeF (h u r m s l : Int) : (Int × Int) × Bool := if (asksB h u r m s && lenB l) = true then takeG h u r m s l else ((0, 0), false)
def renewG (h u r m s l : Int) : (Int × Int) × Bool := if heldB h u r m s = true then leaseRes r (maxI u (wrap64 (m + l))) else ((0, 0), false)
def renewF (h u r m s l : Int) : (Int × Int) × Bool := if (asksB h u r m s && lenB l) = true then renewG h u r m s l else ((0, 0), false)
def earlyF (h u r s : Int) : Int × Bool :=
  if (leaseB h u && roomB r && inB s 0 10) = true then
    (if h = 0 ∨ h = r then (0, true) else if minB (wrap64 (u + s)) = true then (wrap64 (u + s), true) else (0, false))
  else (0, false)
set_option maxHeartbeats 400000 in
theorem HolderAt_spec (h u m : Int) (w : World) : Calls Tryd.prog 17 #[.agg #[.int .i64 h, .int .i64 u], .int .i64 m] w (RV w (.tuple #[.int .i64 (holdF h u m).1, .bool (holdF h u m).2])) := by
  go_enter Tryd.func17, Tryd.ntmps17
  go_wp2_with (first
    | (go_at_call 41; refine (leGood_any _ _ _).mono ?_; rintro e w1 ⟨rfl, hb⟩; obtain ⟨hc, hf, hz⟩ := bcell hb; (try simp at hz); (try (have k0 : w.heap.size < w1.heap.size := (by omega))); (try (have k1 : w.heap.size + 1 < w1.heap.size := (by omega))); (try (have k2 : w.heap.size + 1 + 1 < w1.heap.size := (by omega))); have hB : Below w.heap.size w w1 := (by refine Below.on ?_ ?_ hb <;> go_grown); clear hb)
    | (go_at_call 40; refine (leMinute_any _ _).mono ?_; rintro e w1 ⟨rfl, hb⟩; obtain ⟨hc, hf, hz⟩ := bcell hb; (try simp at hz); (try (have k0 : w.heap.size < w1.heap.size := (by omega))); (try (have k1 : w.heap.size + 1 < w1.heap.size := (by omega))); (try (have k2 : w.heap.size + 1 + 1 < w1.heap.size := (by omega))); have hB : Below w.heap.size w w1 := (by refine Below.on ?_ ?_ hb <;> go_grown); clear hb))
  all_goals go_ret2
  all_goals (go_tidy; refine RV.mk ?_ ?_; (· first | (simp [holdF]; done) | (simp_all [holdF]; done) | (simp_all [holdF] <;> omega) | (simp_all [holdF] <;> split <;> (try simp_all) <;> omega) | (simp_all [holdF] <;> (repeat' split) <;> first | omega | (simp_all; done) | (simp_all; omega))); (· go_grown))
set_option maxHeartbeats 400000 in
theorem HolderAt_impl (h u m : Int) (w : World) : Calls Tryd.prog 16 #[.agg #[.int .i64 h, .int .i64 u], .int .i64 m] w (RV w (.tuple #[.int .i64 (holdF h u m).1, .bool (holdF h u m).2])) := by
  go_enter Tryd.func16, Tryd.ntmps16
  go_wp2_with (first
    | (go_at_call 37; refine (isLease_any _ _ _).mono ?_; rintro e w1 ⟨rfl, hb⟩; obtain ⟨hc, hf, hz⟩ := bcell hb; (try simp at hz); (try (have k0 : w.heap.size < w1.heap.size := (by omega))); (try (have k1 : w.heap.size + 1 < w1.heap.size := (by omega))); (try (have k2 : w.heap.size + 1 + 1 < w1.heap.size := (by omega))); have hB : Below w.heap.size w w1 := (by refine Below.on ?_ ?_ hb <;> go_grown); clear hb)
    | (go_at_call 39; refine (isLogMinute_any _ _).mono ?_; rintro e w1 ⟨rfl, hb⟩; obtain ⟨hc, hf, hz⟩ := bcell hb; (try simp at hz); (try (have k0 : w.heap.size < w1.heap.size := (by omega))); (try (have k1 : w.heap.size + 1 < w1.heap.size := (by omega))); (try (have k2 : w.heap.size + 1 + 1 < w1.heap.size := (by omega))); have hB : Below w.heap.size w w1 := (by refine Below.on ?_ ?_ hb <;> go_grown); clear hb))
  all_goals go_ret2
  all_goals (go_tidy; refine RV.mk ?_ ?_; (· first | (simp [holdF]; done) | (simp_all [holdF]; done) | (simp_all [holdF] <;> omega) | (simp_all [holdF] <;> split <;> (try simp_all) <;> omega) | (simp_all [holdF] <;> (repeat' split) <;> first | omega | (simp_all; done) | (simp_all; omega))); (· go_grown))
set_option maxHeartbeats 400000 in
theorem leAsked_any (h u r m s : Int) (w : World) : Calls Tryd.prog 30 #[.agg #[.int .i64 h, .int .i64 u], .int .i64 r, .int .i64 m, .int .i64 s] w (RV w (.bool (asksB h u r m s))) := by
  go_enter Tryd.func30, Tryd.ntmps30
  go_wp2_with (first
    | (go_at_call 41; refine (leGood_any _ _ _).mono ?_; rintro e w1 ⟨rfl, hb⟩; obtain ⟨hc, hf, hz⟩ := bcell hb; (try simp at hz); (try (have k0 : w.heap.size < w1.heap.size := (by omega))); (try (have k1 : w.heap.size + 1 < w1.heap.size := (by omega))); (try (have k2 : w.heap.size + 1 + 1 < w1.heap.size := (by omega))); have hB : Below w.heap.size w w1 := (by refine Below.on ?_ ?_ hb <;> go_grown); clear hb)
    | (go_at_call 48; refine (leRoom_any _ _).mono ?_; rintro e w1 ⟨rfl, hb⟩; obtain ⟨hc, hf, hz⟩ := bcell hb; (try simp at hz); (try (have k0 : w.heap.size < w1.heap.size := (by omega))); (try (have k1 : w.heap.size + 1 < w1.heap.size := (by omega))); (try (have k2 : w.heap.size + 1 + 1 < w1.heap.size := (by omega))); have hB : Below w.heap.size w w1 := (by refine Below.on ?_ ?_ hb <;> go_grown); clear hb)
    | (go_at_call 40; refine (leMinute_any _ _).mono ?_; rintro e w1 ⟨rfl, hb⟩; obtain ⟨hc, hf, hz⟩ := bcell hb; (try simp at hz); (try (have k0 : w.heap.size < w1.heap.size := (by omega))); (try (have k1 : w.heap.size + 1 < w1.heap.size := (by omega))); (try (have k2 : w.heap.size + 1 + 1 < w1.heap.size := (by omega))); have hB : Below w.heap.size w w1 := (by refine Below.on ?_ ?_ hb <;> go_grown); clear hb)
    | (go_at_call 49; refine (l1In_any _ _ _ _).mono ?_; rintro e w1 ⟨rfl, hb⟩; obtain ⟨hc, hf, hz⟩ := bcell hb; (try simp at hz); (try (have k0 : w.heap.size < w1.heap.size := (by omega))); (try (have k1 : w.heap.size + 1 < w1.heap.size := (by omega))); (try (have k2 : w.heap.size + 1 + 1 < w1.heap.size := (by omega))); have hB : Below w.heap.size w w1 := (by refine Below.on ?_ ?_ hb <;> go_grown); clear hb))
  all_goals go_ret
  all_goals (go_tidy; refine RV.mk ?_ ?_; (· first | (simp [asksB]; done) | (simp_all [asksB]; done) | (simp_all [asksB] <;> omega) | (simp_all [asksB] <;> split <;> (try simp_all) <;> omega) | (simp_all [asksB] <;> (repeat' split) <;> first | omega | (simp_all; done) | (simp_all; omega))); (· go_grown))
set_option maxHeartbeats 400000 in
theorem leaseFits_any (h u r m s : Int) (w : World) : Calls Tryd.prog 27 #[.agg #[.int .i64 h, .int .i64 u], .int .i64 r, .int .i64 m, .int .i64 s] w (RV w (.bool (asksB h u r m s))) := by
  go_enter Tryd.func27, Tryd.ntmps27
  go_wp2_with (first
    | (go_at_call 37; refine (isLease_any _ _ _).mono ?_; rintro e w1 ⟨rfl, hb⟩; obtain ⟨hc, hf, hz⟩ := bcell hb; (try simp at hz); (try (have k0 : w.heap.size < w1.heap.size := (by omega))); (try (have k1 : w.heap.size + 1 < w1.heap.size := (by omega))); (try (have k2 : w.heap.size + 1 + 1 < w1.heap.size := (by omega))); have hB : Below w.heap.size w w1 := (by refine Below.on ?_ ?_ hb <;> go_grown); clear hb)
    | (go_at_call 38; refine (isRoom_any _ _).mono ?_; rintro e w1 ⟨rfl, hb⟩; obtain ⟨hc, hf, hz⟩ := bcell hb; (try simp at hz); (try (have k0 : w.heap.size < w1.heap.size := (by omega))); (try (have k1 : w.heap.size + 1 < w1.heap.size := (by omega))); (try (have k2 : w.heap.size + 1 + 1 < w1.heap.size := (by omega))); have hB : Below w.heap.size w w1 := (by refine Below.on ?_ ?_ hb <;> go_grown); clear hb)
    | (go_at_call 39; refine (isLogMinute_any _ _).mono ?_; rintro e w1 ⟨rfl, hb⟩; obtain ⟨hc, hf, hz⟩ := bcell hb; (try simp at hz); (try (have k0 : w.heap.size < w1.heap.size := (by omega))); (try (have k1 : w.heap.size + 1 < w1.heap.size := (by omega))); (try (have k2 : w.heap.size + 1 + 1 < w1.heap.size := (by omega))); have hB : Below w.heap.size w w1 := (by refine Below.on ?_ ?_ hb <;> go_grown); clear hb)
    | (go_at_call 28; refine (inside_any _ _ _ _).mono ?_; rintro e w1 ⟨rfl, hb⟩; obtain ⟨hc, hf, hz⟩ := bcell hb; (try simp at hz); (try (have k0 : w.heap.size < w1.heap.size := (by omega))); (try (have k1 : w.heap.size + 1 < w1.heap.size := (by omega))); (try (have k2 : w.heap.size + 1 + 1 < w1.heap.size := (by omega))); have hB : Below w.heap.size w w1 := (by refine Below.on ?_ ?_ hb <;> go_grown); clear hb))
  all_goals go_ret
  all_goals (go_tidy; refine RV.mk ?_ ?_; (· first | (simp [asksB]; done) | (simp_all [asksB]; done) | (simp_all [asksB] <;> omega) | (simp_all [asksB] <;> split <;> (try simp_all) <;> omega) | (simp_all [asksB] <;> (repeat' split) <;> first | omega | (simp_all; done) | (simp_all; omega))); (· go_grown))
set_option maxHeartbeats 400000 in
theorem leHeld_any (h u r m s : Int) (w : World) : Calls Tryd.prog 36 #[.agg #[.int .i64 h, .int .i64 u], .int .i64 r, .int .i64 m, .int .i64 s] w (RV w (.bool (heldB h u r m s))) := by
  go_enter Tryd.func36, Tryd.ntmps36
  go_wp2
  all_goals go_ret
  all_goals (go_tidy; refine RV.mk ?_ ?_; (· first | (simp [heldB]; done) | (simp_all [heldB]; done) | (simp_all [heldB] <;> omega) | (simp_all [heldB] <;> split <;> (try simp_all) <;> omega) | (simp_all [heldB] <;> (repeat' split) <;> first | omega | (simp_all; done) | (simp_all; omega))); (· go_grown))
set_option maxHeartbeats 400000 in
theorem maySend_any (h u r m s : Int) (w : World) : Calls Tryd.prog 35 #[.agg #[.int .i64 h, .int .i64 u], .int .i64 r, .int .i64 m, .int .i64 s] w (RV w (.bool (heldB h u r m s))) := by
  go_enter Tryd.func35, Tryd.ntmps35
  go_wp2
  all_goals go_ret
  all_goals (go_tidy; refine RV.mk ?_ ?_; (· first | (simp [heldB]; done) | (simp_all [heldB]; done) | (simp_all [heldB] <;> omega) | (simp_all [heldB] <;> split <;> (try simp_all) <;> omega) | (simp_all [heldB] <;> (repeat' split) <;> first | omega | (simp_all; done) | (simp_all; omega))); (· go_grown))
set_option maxHeartbeats 400000 in
theorem MaySend_spec (h u r m s : Int) (w : World) : Calls Tryd.prog 12 #[.agg #[.int .i64 h, .int .i64 u], .int .i64 r, .int .i64 m, .int .i64 s] w (RV w (.tuple #[.bool (mayF h u r m s).1, .bool (mayF h u r m s).2])) := by
  go_enter Tryd.func12, Tryd.ntmps12
  go_wp2_with (first
    | (go_at_call 30; refine (leAsked_any _ _ _ _ _ _).mono ?_; rintro e w1 ⟨rfl, hb⟩; obtain ⟨hc, hf, hz⟩ := bcell hb; (try simp at hz); (try (have k0 : w.heap.size < w1.heap.size := (by omega))); (try (have k1 : w.heap.size + 1 < w1.heap.size := (by omega))); (try (have k2 : w.heap.size + 1 + 1 < w1.heap.size := (by omega))); have hB : Below w.heap.size w w1 := (by refine Below.on ?_ ?_ hb <;> go_grown); clear hb)
    | (go_at_call 36; refine (leHeld_any _ _ _ _ _ _).mono ?_; rintro e w1 ⟨rfl, hb⟩; obtain ⟨hc, hf, hz⟩ := bcell hb; (try simp at hz); (try (have k0 : w.heap.size < w1.heap.size := (by omega))); (try (have k1 : w.heap.size + 1 < w1.heap.size := (by omega))); (try (have k2 : w.heap.size + 1 + 1 < w1.heap.size := (by omega))); have hB : Below w.heap.size w w1 := (by refine Below.on ?_ ?_ hb <;> go_grown); clear hb))
  all_goals go_ret2
  all_goals (go_tidy; refine RV.mk ?_ ?_; (· first | (simp [mayF]; done) | (simp_all [mayF]; done) | (simp_all [mayF] <;> omega) | (simp_all [mayF] <;> split <;> (try simp_all) <;> omega) | (simp_all [mayF] <;> (repeat' split) <;> first | omega | (simp_all; done) | (simp_all; omega))); (· go_grown))
set_option maxHeartbeats 400000 in
theorem MaySend_impl (h u r m s : Int) (w : World) : Calls Tryd.prog 11 #[.agg #[.int .i64 h, .int .i64 u], .int .i64 r, .int .i64 m, .int .i64 s] w (RV w (.tuple #[.bool (mayF h u r m s).1, .bool (mayF h u r m s).2])) := by
  go_enter Tryd.func11, Tryd.ntmps11
  go_wp2_with (first
    | (go_at_call 27; refine (leaseFits_any _ _ _ _ _ _).mono ?_; rintro e w1 ⟨rfl, hb⟩; obtain ⟨hc, hf, hz⟩ := bcell hb; (try simp at hz); (try (have k0 : w.heap.size < w1.heap.size := (by omega))); (try (have k1 : w.heap.size + 1 < w1.heap.size := (by omega))); (try (have k2 : w.heap.size + 1 + 1 < w1.heap.size := (by omega))); have hB : Below w.heap.size w w1 := (by refine Below.on ?_ ?_ hb <;> go_grown); clear hb)
    | (go_at_call 35; refine (maySend_any _ _ _ _ _ _).mono ?_; rintro e w1 ⟨rfl, hb⟩; obtain ⟨hc, hf, hz⟩ := bcell hb; (try simp at hz); (try (have k0 : w.heap.size < w1.heap.size := (by omega))); (try (have k1 : w.heap.size + 1 < w1.heap.size := (by omega))); (try (have k2 : w.heap.size + 1 + 1 < w1.heap.size := (by omega))); have hB : Below w.heap.size w w1 := (by refine Below.on ?_ ?_ hb <;> go_grown); clear hb))
  all_goals go_ret2
  all_goals (go_tidy; refine RV.mk ?_ ?_; (· first | (simp [mayF]; done) | (simp_all [mayF]; done) | (simp_all [mayF] <;> omega) | (simp_all [mayF] <;> split <;> (try simp_all) <;> omega) | (simp_all [mayF] <;> (repeat' split) <;> first | omega | (simp_all; done) | (simp_all; omega))); (· go_grown))
set_option maxHeartbeats 400000 in
theorem leLength_any (l : Int) (w : World) : Calls Tryd.prog 31 #[.int .i64 l] w (RV w (.bool (lenB l))) := by
  go_enter Tryd.func31, Tryd.ntmps31
  go_wp2_with (go_at_call 49; refine (l1In_any _ _ _ _).mono ?_; rintro e w1 ⟨rfl, hb⟩; obtain ⟨hc, hf, hz⟩ := bcell hb; (try simp at hz); (try (have k0 : w.heap.size < w1.heap.size := (by omega))); (try (have k1 : w.heap.size + 1 < w1.heap.size := (by omega))); (try (have k2 : w.heap.size + 1 + 1 < w1.heap.size := (by omega))); have hB : Below w.heap.size w w1 := (by refine Below.on ?_ ?_ hb <;> go_grown); clear hb)
  all_goals go_ret
  all_goals (go_tidy; refine RV.mk ?_ ?_; (· first | (simp [lenB]; done) | (simp_all [lenB]; done) | (simp_all [lenB] <;> omega) | (simp_all [lenB] <;> split <;> (try simp_all) <;> omega) | (simp_all [lenB] <;> (repeat' split) <;> first | omega | (simp_all; done) | (simp_all; omega))); (· go_grown))
set_option maxHeartbeats 400000 in
theorem leOver_any (h u m s : Int) (w : World) : Calls Tryd.prog 50 #[.agg #[.int .i64 h, .int .i64 u], .int .i64 m, .int .i64 s] w (RV w (.bool (overB u m s))) := by
  go_enter Tryd.func50, Tryd.ntmps50
  go_wp2
  all_goals go_ret
  all_goals (go_tidy; refine RV.mk ?_ ?_; (· first | (simp [overB]; done) | (simp_all [overB]; done) | (simp_all [overB] <;> omega) | (simp_all [overB] <;> split <;> (try simp_all) <;> omega) | (simp_all [overB] <;> (repeat' split) <;> first | omega | (simp_all; done) | (simp_all; omega))); (· go_grown))
set_option maxHeartbeats 400000 in
theorem leIf_any (h u : Int) (w : World) : Calls Tryd.prog 51 #[.agg #[.int .i64 h, .int .i64 u]] w (RV w (.tuple #[.agg #[.int .i64 (leaseRes h u).1.1, .int .i64 (leaseRes h u).1.2], .bool (leaseRes h u).2])) := by
  go_enter Tryd.func51, Tryd.ntmps51
  go_wp2_with (go_at_call 41; refine (leGood_any _ _ _).mono ?_; rintro e w1 ⟨rfl, hb⟩; obtain ⟨hc, hf, hz⟩ := bcell hb; (try simp at hz); (try (have k0 : w.heap.size < w1.heap.size := (by omega))); (try (have k1 : w.heap.size + 1 < w1.heap.size := (by omega))); (try (have k2 : w.heap.size + 1 + 1 < w1.heap.size := (by omega))); have hB : Below w.heap.size w w1 := (by refine Below.on ?_ ?_ hb <;> go_grown); clear hb)
  all_goals (refine bodyPost_ret (by simp [results, Tryd.results51, go_sem, *]; try rfl) rfl ?_)
  all_goals (go_tidy; refine RV.mk ?_ ?_; (· first | (simp [leaseRes]; done) | (simp_all [leaseRes]; done) | (simp_all [leaseRes] <;> omega) | (simp_all [leaseRes] <;> split <;> (try simp_all) <;> omega) | (simp_all [leaseRes] <;> (repeat' split) <;> first | omega | (simp_all; done) | (simp_all; omega))); (· go_grown))
set_option maxHeartbeats 400000 in
theorem leaseResult_any (h u : Int) (w : World) : Calls Tryd.prog 47 #[.agg #[.int .i64 h, .int .i64 u]] w (RV w (.tuple #[.agg #[.int .i64 (leaseRes h u).1.1, .int .i64 (leaseRes h u).1.2], .bool (leaseRes h u).2])) := by
  go_enter Tryd.func47, Tryd.ntmps47
  go_wp2_with (go_at_call 37; refine (isLease_any _ _ _).mono ?_; rintro e w1 ⟨rfl, hb⟩; obtain ⟨hc, hf, hz⟩ := bcell hb; (try simp at hz); (try (have k0 : w.heap.size < w1.heap.size := (by omega))); (try (have k1 : w.heap.size + 1 < w1.heap.size := (by omega))); (try (have k2 : w.heap.size + 1 + 1 < w1.heap.size := (by omega))); have hB : Below w.heap.size w w1 := (by refine Below.on ?_ ?_ hb <;> go_grown); clear hb)
  all_goals (refine bodyPost_ret (by simp [results, Tryd.results47, go_sem, *]; try rfl) rfl ?_)
  all_goals (go_tidy; refine RV.mk ?_ ?_; (· first | (simp [leaseRes]; done) | (simp_all [leaseRes]; done) | (simp_all [leaseRes] <;> omega) | (simp_all [leaseRes] <;> split <;> (try simp_all) <;> omega) | (simp_all [leaseRes] <;> (repeat' split) <;> first | omega | (simp_all; done) | (simp_all; omega))); (· go_grown))
set_option maxHeartbeats 400000 in
theorem leTake_any (h u r m s l : Int) (w : World) : Calls Tryd.prog 32 #[.agg #[.int .i64 h, .int .i64 u], .int .i64 r, .int .i64 m, .int .i64 s, .int .i64 l] w (RV w (.tuple #[.agg #[.int .i64 (takeG h u r m s l).1.1, .int .i64 (takeG h u r m s l).1.2], .bool (takeG h u r m s l).2])) := by
  go_enter Tryd.func32, Tryd.ntmps32
  go_wp2_with (first
    | (go_at_call 50; refine (leOver_any _ _ _ _ _).mono ?_; rintro e w1 ⟨rfl, hb⟩; obtain ⟨hc, hf, hz⟩ := bcell hb; (try simp at hz); (try (have k0 : w.heap.size < w1.heap.size := (by omega))); (try (have k1 : w.heap.size + 1 < w1.heap.size := (by omega))); (try (have k2 : w.heap.size + 1 + 1 < w1.heap.size := (by omega))); have hB : Below w.heap.size w w1 := (by refine Below.on ?_ ?_ hb <;> go_grown); clear hb)
    | (go_at_call 51; refine (leIf_any _ _ _).mono ?_; rintro e w1 ⟨rfl, hb⟩; obtain ⟨hc, hf, hz⟩ := bcell hb; (try simp at hz); (try (have k0 : w.heap.size < w1.heap.size := (by omega))); (try (have k1 : w.heap.size + 1 < w1.heap.size := (by omega))); (try (have k2 : w.heap.size + 1 + 1 < w1.heap.size := (by omega))); have hB : Below w.heap.size w w1 := (by refine Below.on ?_ ?_ hb <;> go_grown); clear hb))
  all_goals (refine bodyPost_ret (by simp [results, Tryd.results32, go_sem, *]; try rfl) rfl ?_)
  all_goals (go_tidy; refine RV.mk ?_ ?_; (· first | (simp [takeG]; done) | (simp_all [takeG]; done) | (simp_all [takeG] <;> omega) | (simp_all [takeG] <;> split <;> (try simp_all) <;> omega) | (simp_all [takeG] <;> (repeat' split) <;> first | omega | (simp_all; done) | (simp_all; omega))); (· go_grown))
set_option maxHeartbeats 400000 in
theorem takeLease_any (h u r m s l : Int) (w : World) : Calls Tryd.prog 29 #[.agg #[.int .i64 h, .int .i64 u], .int .i64 r, .int .i64 m, .int .i64 s, .int .i64 l] w (RV w (.tuple #[.agg #[.int .i64 (takeG h u r m s l).1.1, .int .i64 (takeG h u r m s l).1.2], .bool (takeG h u r m s l).2])) := by
  go_enter Tryd.func29, Tryd.ntmps29
  go_wp2_with (go_at_call 47; refine (leaseResult_any _ _ _).mono ?_; rintro e w1 ⟨rfl, hb⟩; obtain ⟨hc, hf, hz⟩ := bcell hb; (try simp at hz); (try (have k0 : w.heap.size < w1.heap.size := (by omega))); (try (have k1 : w.heap.size + 1 < w1.heap.size := (by omega))); (try (have k2 : w.heap.size + 1 + 1 < w1.heap.size := (by omega))); have hB : Below w.heap.size w w1 := (by refine Below.on ?_ ?_ hb <;> go_grown); clear hb)
  all_goals (refine bodyPost_ret (by simp [results, Tryd.results29, go_sem, *]; try rfl) rfl ?_)
  all_goals (go_tidy; refine RV.mk ?_ ?_; (· first | (simp [takeG, overB]; done) | (simp_all [takeG, overB]; done) | (simp_all [takeG, overB] <;> omega) | (simp_all [takeG, overB] <;> split <;> (try simp_all) <;> omega) | (simp_all [takeG, overB] <;> (repeat' split) <;> first | omega | (simp_all; done) | (simp_all; omega))); (· go_grown))
set_option maxHeartbeats 400000 in
theorem TakeLease_spec (h u r m s l : Int) (w : World) : Calls Tryd.prog 6 #[.agg #[.int .i64 h, .int .i64 u], .int .i64 r, .int .i64 m, .int .i64 s, .int .i64 l] w (RV w (.tuple #[.agg #[.int .i64 (takeF h u r m s l).1.1, .int .i64 (takeF h u r m s l).1.2], .bool (takeF h u r m s l).2])) := by
  go_enter Tryd.func6, Tryd.ntmps6
  go_wp2_with (first
    | (go_at_call 30; refine (leAsked_any _ _ _ _ _ _).mono ?_; rintro e w1 ⟨rfl, hb⟩; obtain ⟨hc, hf, hz⟩ := bcell hb; (try simp at hz); (try (have k0 : w.heap.size < w1.heap.size := (by omega))); (try (have k1 : w.heap.size + 1 < w1.heap.size := (by omega))); (try (have k2 : w.heap.size + 1 + 1 < w1.heap.size := (by omega))); have hB : Below w.heap.size w w1 := (by refine Below.on ?_ ?_ hb <;> go_grown); clear hb)
    | (go_at_call 31; refine (leLength_any _ _).mono ?_; rintro e w1 ⟨rfl, hb⟩; obtain ⟨hc, hf, hz⟩ := bcell hb; (try simp at hz); (try (have k0 : w.heap.size < w1.heap.size := (by omega))); (try (have k1 : w.heap.size + 1 < w1.heap.size := (by omega))); (try (have k2 : w.heap.size + 1 + 1 < w1.heap.size := (by omega))); have hB : Below w.heap.size w w1 := (by refine Below.on ?_ ?_ hb <;> go_grown); clear hb)
    | (go_at_call 32; refine (leTake_any _ _ _ _ _ _ _).mono ?_; rintro e w1 ⟨rfl, hb⟩; obtain ⟨hc, hf, hz⟩ := bcell hb; (try simp at hz); (try (have k0 : w.heap.size < w1.heap.size := (by omega))); (try (have k1 : w.heap.size + 1 < w1.heap.size := (by omega))); (try (have k2 : w.heap.size + 1 + 1 < w1.heap.size := (by omega))); have hB : Below w.heap.size w w1 := (by refine Below.on ?_ ?_ hb <;> go_grown); clear hb))
  all_goals (refine bodyPost_ret (by simp [results, Tryd.results6, go_sem, *]; try rfl) rfl ?_)
  all_goals (go_tidy; refine RV.mk ?_ ?_; (· first | (simp [takeF]; done) | (simp_all [takeF]; done) | (simp_all [takeF] <;> omega) | (simp_all [takeF] <;> split <;> (try simp_all) <;> omega) | (simp_all [takeF] <;> (repeat' split) <;> first | omega | (simp_all; done) | (simp_all; omega))); (· go_grown))
set_option maxHeartbeats 400000 in
theorem TakeLease_impl (h u r m s l : Int) (w : World) : Calls Tryd.prog 5 #[.agg #[.int .i64 h, .int .i64 u], .int .i64 r, .int .i64 m, .int .i64 s, .int .i64 l] w (RV w (.tuple #[.agg #[.int .i64 (takeF h u r m s l).1.1, .int .i64 (takeF h u r m s l).1.2], .bool (takeF h u r m s l).2])) := by
  go_enter Tryd.func5, Tryd.ntmps5
  go_wp2_with (first
    | (go_at_call 27; refine (leaseFits_any _ _ _ _ _ _).mono ?_; rintro e w1 ⟨rfl, hb⟩; obtain ⟨hc, hf, hz⟩ := bcell hb; (try simp at hz); (try (have k0 : w.heap.size < w1.heap.size := (by omega))); (try (have k1 : w.heap.size + 1 < w1.heap.size := (by omega))); (try (have k2 : w.heap.size + 1 + 1 < w1.heap.size := (by omega))); have hB : Below w.heap.size w w1 := (by refine Below.on ?_ ?_ hb <;> go_grown); clear hb)
    | (go_at_call 28; refine (inside_any _ _ _ _).mono ?_; rintro e w1 ⟨rfl, hb⟩; obtain ⟨hc, hf, hz⟩ := bcell hb; (try simp at hz); (try (have k0 : w.heap.size < w1.heap.size := (by omega))); (try (have k1 : w.heap.size + 1 < w1.heap.size := (by omega))); (try (have k2 : w.heap.size + 1 + 1 < w1.heap.size := (by omega))); have hB : Below w.heap.size w w1 := (by refine Below.on ?_ ?_ hb <;> go_grown); clear hb)
    | (go_at_call 29; refine (takeLease_any _ _ _ _ _ _ _).mono ?_; rintro e w1 ⟨rfl, hb⟩; obtain ⟨hc, hf, hz⟩ := bcell hb; (try simp at hz); (try (have k0 : w.heap.size < w1.heap.size := (by omega))); (try (have k1 : w.heap.size + 1 < w1.heap.size := (by omega))); (try (have k2 : w.heap.size + 1 + 1 < w1.heap.size := (by omega))); have hB : Below w.heap.size w w1 := (by refine Below.on ?_ ?_ hb <;> go_grown); clear hb))
  all_goals (refine bodyPost_ret (by simp [results, Tryd.results5, go_sem, *]; try rfl) rfl ?_)
  all_goals (go_tidy; refine RV.mk ?_ ?_; (· first | (simp [takeF, lenB]; done) | (simp_all [takeF, lenB]; done) | (simp_all [takeF, lenB] <;> omega) | (simp_all [takeF, lenB] <;> split <;> (try simp_all) <;> omega) | (simp_all [takeF, lenB] <;> (repeat' split) <;> first | omega | (simp_all; done) | (simp_all; omega))); (· go_grown))
set_option maxHeartbeats 400000 in
theorem l1Most_any (a b : Int) (w : World) : Calls Tryd.prog 52 #[.int .i64 a, .int .i64 b] w (RV w (.int .i64 (maxI a b))) := by
  go_enter Tryd.func52, Tryd.ntmps52
  go_wp2
  all_goals go_ret
  all_goals (go_tidy; refine RV.mk ?_ ?_; (· first | (simp [maxI]; done) | (simp_all [maxI]; done) | (simp_all [maxI] <;> omega) | (simp_all [maxI] <;> split <;> (try simp_all) <;> omega) | (simp_all [maxI] <;> (repeat' split) <;> first | omega | (simp_all; done) | (simp_all; omega))); (· go_grown))
set_option maxHeartbeats 400000 in
theorem leRenew_any (h u r m s l : Int) (w : World) : Calls Tryd.prog 34 #[.agg #[.int .i64 h, .int .i64 u], .int .i64 r, .int .i64 m, .int .i64 s, .int .i64 l] w (RV w (.tuple #[.agg #[.int .i64 (renewG h u r m s l).1.1, .int .i64 (renewG h u r m s l).1.2], .bool (renewG h u r m s l).2])) := by
  go_enter Tryd.func34, Tryd.ntmps34
  go_wp2_with (first
    | (go_at_call 36; refine (leHeld_any _ _ _ _ _ _).mono ?_; rintro e w1 ⟨rfl, hb⟩; obtain ⟨hc, hf, hz⟩ := bcell hb; (try simp at hz); (try (have k0 : w.heap.size < w1.heap.size := (by omega))); (try (have k1 : w.heap.size + 1 < w1.heap.size := (by omega))); (try (have k2 : w.heap.size + 1 + 1 < w1.heap.size := (by omega))); have hB : Below w.heap.size w w1 := (by refine Below.on ?_ ?_ hb <;> go_grown); clear hb)
    | (go_at_call 52; refine (l1Most_any _ _ _).mono ?_; rintro e w1 ⟨rfl, hb⟩; obtain ⟨hc, hf, hz⟩ := bcell hb; (try simp at hz); (try (have k0 : w.heap.size < w1.heap.size := (by omega))); (try (have k1 : w.heap.size + 1 < w1.heap.size := (by omega))); (try (have k2 : w.heap.size + 1 + 1 < w1.heap.size := (by omega))); have hB : Below w.heap.size w w1 := (by refine Below.on ?_ ?_ hb <;> go_grown); clear hb)
    | (go_at_call 51; refine (leIf_any _ _ _).mono ?_; rintro e w1 ⟨rfl, hb⟩; obtain ⟨hc, hf, hz⟩ := bcell hb; (try simp at hz); (try (have k0 : w.heap.size < w1.heap.size := (by omega))); (try (have k1 : w.heap.size + 1 < w1.heap.size := (by omega))); (try (have k2 : w.heap.size + 1 + 1 < w1.heap.size := (by omega))); have hB : Below w.heap.size w w1 := (by refine Below.on ?_ ?_ hb <;> go_grown); clear hb))
  all_goals (refine bodyPost_ret (by simp [results, Tryd.results34, go_sem, *]; try rfl) rfl ?_)
  all_goals (go_tidy; refine RV.mk ?_ ?_; (· first | (simp [renewG]; done) | (simp_all [renewG]; done) | (simp_all [renewG] <;> omega) | (simp_all [renewG] <;> split <;> (try simp_all) <;> omega) | (simp_all [renewG] <;> (repeat' split) <;> first | omega | (simp_all; done) | (simp_all; omega))); (· go_grown))
set_option maxHeartbeats 400000 in
theorem renewLease_any (h u r m s l : Int) (w : World) : Calls Tryd.prog 33 #[.agg #[.int .i64 h, .int .i64 u], .int .i64 r, .int .i64 m, .int .i64 s, .int .i64 l] w (RV w (.tuple #[.agg #[.int .i64 (renewG h u r m s l).1.1, .int .i64 (renewG h u r m s l).1.2], .bool (renewG h u r m s l).2])) := by
  go_enter Tryd.func33, Tryd.ntmps33
  go_wp2_with (first
    | (go_at_call 35; refine (maySend_any _ _ _ _ _ _).mono ?_; rintro e w1 ⟨rfl, hb⟩; obtain ⟨hc, hf, hz⟩ := bcell hb; (try simp at hz); (try (have k0 : w.heap.size < w1.heap.size := (by omega))); (try (have k1 : w.heap.size + 1 < w1.heap.size := (by omega))); (try (have k2 : w.heap.size + 1 + 1 < w1.heap.size := (by omega))); have hB : Below w.heap.size w w1 := (by refine Below.on ?_ ?_ hb <;> go_grown); clear hb)
    | (go_at_call 47; refine (leaseResult_any _ _ _).mono ?_; rintro e w1 ⟨rfl, hb⟩; obtain ⟨hc, hf, hz⟩ := bcell hb; (try simp at hz); (try (have k0 : w.heap.size < w1.heap.size := (by omega))); (try (have k1 : w.heap.size + 1 < w1.heap.size := (by omega))); (try (have k2 : w.heap.size + 1 + 1 < w1.heap.size := (by omega))); have hB : Below w.heap.size w w1 := (by refine Below.on ?_ ?_ hb <;> go_grown); clear hb))
  all_goals (refine bodyPost_ret (by simp [results, Tryd.results33, go_sem, *]; try rfl) rfl ?_)
  all_goals (go_tidy; refine RV.mk ?_ ?_; (· first | (simp [renewG, maxI]; done) | (simp_all [renewG, maxI]; done) | (simp_all [renewG, maxI] <;> omega) | (simp_all [renewG, maxI] <;> split <;> (try simp_all) <;> omega) | (simp_all [renewG, maxI] <;> (repeat' split) <;> first | omega | (simp_all; done) | (simp_all; omega))); (· go_grown))
set_option maxHeartbeats 400000 in
theorem RenewLease_spec (h u r m s l : Int) (w : World) : Calls Tryd.prog 8 #[.agg #[.int .i64 h, .int .i64 u], .int .i64 r, .int .i64 m, .int .i64 s, .int .i64 l] w (RV w (.tuple #[.agg #[.int .i64 (renewF h u r m s l).1.1, .int .i64 (renewF h u r m s l).1.2], .bool (renewF h u r m s l).2])) := by
  go_enter Tryd.func8, Tryd.ntmps8
  go_wp2_with (first
    | (go_at_call 30; refine (leAsked_any _ _ _ _ _ _).mono ?_; rintro e w1 ⟨rfl, hb⟩; obtain ⟨hc, hf, hz⟩ := bcell hb; (try simp at hz); (try (have k0 : w.heap.size < w1.heap.size := (by omega))); (try (have k1 : w.heap.size + 1 < w1.heap.size := (by omega))); (try (have k2 : w.heap.size + 1 + 1 < w1.heap.size := (by omega))); have hB : Below w.heap.size w w1 := (by refine Below.on ?_ ?_ hb <;> go_grown); clear hb)
    | (go_at_call 31; refine (leLength_any _ _).mono ?_; rintro e w1 ⟨rfl, hb⟩; obtain ⟨hc, hf, hz⟩ := bcell hb; (try simp at hz); (try (have k0 : w.heap.size < w1.heap.size := (by omega))); (try (have k1 : w.heap.size + 1 < w1.heap.size := (by omega))); (try (have k2 : w.heap.size + 1 + 1 < w1.heap.size := (by omega))); have hB : Below w.heap.size w w1 := (by refine Below.on ?_ ?_ hb <;> go_grown); clear hb)
    | (go_at_call 34; refine (leRenew_any _ _ _ _ _ _ _).mono ?_; rintro e w1 ⟨rfl, hb⟩; obtain ⟨hc, hf, hz⟩ := bcell hb; (try simp at hz); (try (have k0 : w.heap.size < w1.heap.size := (by omega))); (try (have k1 : w.heap.size + 1 < w1.heap.size := (by omega))); (try (have k2 : w.heap.size + 1 + 1 < w1.heap.size := (by omega))); have hB : Below w.heap.size w w1 := (by refine Below.on ?_ ?_ hb <;> go_grown); clear hb))
  all_goals (refine bodyPost_ret (by simp [results, Tryd.results8, go_sem, *]; try rfl) rfl ?_)
  all_goals (go_tidy; refine RV.mk ?_ ?_; (· first | (simp [renewF]; done) | (simp_all [renewF]; done) | (simp_all [renewF] <;> omega) | (simp_all [renewF] <;> split <;> (try simp_all) <;> omega) | (simp_all [renewF] <;> (repeat' split) <;> first | omega | (simp_all; done) | (simp_all; omega))); (· go_grown))
set_option maxHeartbeats 400000 in
theorem RenewLease_impl (h u r m s l : Int) (w : World) : Calls Tryd.prog 7 #[.agg #[.int .i64 h, .int .i64 u], .int .i64 r, .int .i64 m, .int .i64 s, .int .i64 l] w (RV w (.tuple #[.agg #[.int .i64 (renewF h u r m s l).1.1, .int .i64 (renewF h u r m s l).1.2], .bool (renewF h u r m s l).2])) := by
  go_enter Tryd.func7, Tryd.ntmps7
  go_wp2_with (first
    | (go_at_call 27; refine (leaseFits_any _ _ _ _ _ _).mono ?_; rintro e w1 ⟨rfl, hb⟩; obtain ⟨hc, hf, hz⟩ := bcell hb; (try simp at hz); (try (have k0 : w.heap.size < w1.heap.size := (by omega))); (try (have k1 : w.heap.size + 1 < w1.heap.size := (by omega))); (try (have k2 : w.heap.size + 1 + 1 < w1.heap.size := (by omega))); have hB : Below w.heap.size w w1 := (by refine Below.on ?_ ?_ hb <;> go_grown); clear hb)
    | (go_at_call 28; refine (inside_any _ _ _ _).mono ?_; rintro e w1 ⟨rfl, hb⟩; obtain ⟨hc, hf, hz⟩ := bcell hb; (try simp at hz); (try (have k0 : w.heap.size < w1.heap.size := (by omega))); (try (have k1 : w.heap.size + 1 < w1.heap.size := (by omega))); (try (have k2 : w.heap.size + 1 + 1 < w1.heap.size := (by omega))); have hB : Below w.heap.size w w1 := (by refine Below.on ?_ ?_ hb <;> go_grown); clear hb)
    | (go_at_call 33; refine (renewLease_any _ _ _ _ _ _ _).mono ?_; rintro e w1 ⟨rfl, hb⟩; obtain ⟨hc, hf, hz⟩ := bcell hb; (try simp at hz); (try (have k0 : w.heap.size < w1.heap.size := (by omega))); (try (have k1 : w.heap.size + 1 < w1.heap.size := (by omega))); (try (have k2 : w.heap.size + 1 + 1 < w1.heap.size := (by omega))); have hB : Below w.heap.size w w1 := (by refine Below.on ?_ ?_ hb <;> go_grown); clear hb))
  all_goals (refine bodyPost_ret (by simp [results, Tryd.results7, go_sem, *]; try rfl) rfl ?_)
  all_goals (go_tidy; refine RV.mk ?_ ?_; (· first | (simp [renewF, lenB]; done) | (simp_all [renewF, lenB]; done) | (simp_all [renewF, lenB] <;> omega) | (simp_all [renewF, lenB] <;> split <;> (try simp_all) <;> omega) | (simp_all [renewF, lenB] <;> (repeat' split) <;> first | omega | (simp_all; done) | (simp_all; omega))); (· go_grown))
set_option maxHeartbeats 400000 in
theorem GiveLease_spec (h u r m s : Int) (w : World) : Calls Tryd.prog 10 #[.agg #[.int .i64 h, .int .i64 u], .int .i64 r, .int .i64 m, .int .i64 s] w (RV w (.tuple #[.agg #[.int .i64 (giveF h u r m s).1.1, .int .i64 (giveF h u r m s).1.2], .bool (giveF h u r m s).2])) := by
  go_enter Tryd.func10, Tryd.ntmps10
  go_wp2_with (first
    | (go_at_call 30; refine (leAsked_any _ _ _ _ _ _).mono ?_; rintro e w1 ⟨rfl, hb⟩; obtain ⟨hc, hf, hz⟩ := bcell hb; (try simp at hz); (try (have k0 : w.heap.size < w1.heap.size := (by omega))); (try (have k1 : w.heap.size + 1 < w1.heap.size := (by omega))); (try (have k2 : w.heap.size + 1 + 1 < w1.heap.size := (by omega))); have hB : Below w.heap.size w w1 := (by refine Below.on ?_ ?_ hb <;> go_grown); clear hb)
    | (go_at_call 36; refine (leHeld_any _ _ _ _ _ _).mono ?_; rintro e w1 ⟨rfl, hb⟩; obtain ⟨hc, hf, hz⟩ := bcell hb; (try simp at hz); (try (have k0 : w.heap.size < w1.heap.size := (by omega))); (try (have k1 : w.heap.size + 1 < w1.heap.size := (by omega))); (try (have k2 : w.heap.size + 1 + 1 < w1.heap.size := (by omega))); have hB : Below w.heap.size w w1 := (by refine Below.on ?_ ?_ hb <;> go_grown); clear hb))
  all_goals (refine bodyPost_ret (by simp [results, Tryd.results10, go_sem, *]; try rfl) rfl ?_)
  all_goals (go_tidy; refine RV.mk ?_ ?_; (· first | (simp [giveF]; done) | (simp_all [giveF]; done) | (simp_all [giveF] <;> omega) | (simp_all [giveF] <;> split <;> (try simp_all) <;> omega) | (simp_all [giveF] <;> (repeat' split) <;> first | omega | (simp_all; done) | (simp_all; omega))); (· go_grown))
set_option maxHeartbeats 400000 in
theorem GiveLease_impl (h u r m s : Int) (w : World) : Calls Tryd.prog 9 #[.agg #[.int .i64 h, .int .i64 u], .int .i64 r, .int .i64 m, .int .i64 s] w (RV w (.tuple #[.agg #[.int .i64 (giveF h u r m s).1.1, .int .i64 (giveF h u r m s).1.2], .bool (giveF h u r m s).2])) := by
  go_enter Tryd.func9, Tryd.ntmps9
  go_wp2_with (first
    | (go_at_call 27; refine (leaseFits_any _ _ _ _ _ _).mono ?_; rintro e w1 ⟨rfl, hb⟩; obtain ⟨hc, hf, hz⟩ := bcell hb; (try simp at hz); (try (have k0 : w.heap.size < w1.heap.size := (by omega))); (try (have k1 : w.heap.size + 1 < w1.heap.size := (by omega))); (try (have k2 : w.heap.size + 1 + 1 < w1.heap.size := (by omega))); have hB : Below w.heap.size w w1 := (by refine Below.on ?_ ?_ hb <;> go_grown); clear hb)
    | (go_at_call 35; refine (maySend_any _ _ _ _ _ _).mono ?_; rintro e w1 ⟨rfl, hb⟩; obtain ⟨hc, hf, hz⟩ := bcell hb; (try simp at hz); (try (have k0 : w.heap.size < w1.heap.size := (by omega))); (try (have k1 : w.heap.size + 1 < w1.heap.size := (by omega))); (try (have k2 : w.heap.size + 1 + 1 < w1.heap.size := (by omega))); have hB : Below w.heap.size w w1 := (by refine Below.on ?_ ?_ hb <;> go_grown); clear hb))
  all_goals (refine bodyPost_ret (by simp [results, Tryd.results9, go_sem, *]; try rfl) rfl ?_)
  all_goals (go_tidy; refine RV.mk ?_ ?_; (· first | (simp [giveF]; done) | (simp_all [giveF]; done) | (simp_all [giveF] <;> omega) | (simp_all [giveF] <;> split <;> (try simp_all) <;> omega) | (simp_all [giveF] <;> (repeat' split) <;> first | omega | (simp_all; done) | (simp_all; omega))); (· go_grown))
set_option maxHeartbeats 400000 in
theorem EarliestTakeover_spec (h u r s : Int) (w : World) : Calls Tryd.prog 14 #[.agg #[.int .i64 h, .int .i64 u], .int .i64 r, .int .i64 s] w (RV w (.tuple #[.int .i64 (earlyF h u r s).1, .bool (earlyF h u r s).2])) := by
  go_enter Tryd.func14, Tryd.ntmps14
  go_wp2_with (first
    | (go_at_call 30; refine (leAsked_any _ _ _ _ _ _).mono ?_; rintro e w1 ⟨rfl, hb⟩; obtain ⟨hc, hf, hz⟩ := bcell hb; (try simp at hz); (try (have k0 : w.heap.size < w1.heap.size := (by omega))); (try (have k1 : w.heap.size + 1 < w1.heap.size := (by omega))); (try (have k2 : w.heap.size + 1 + 1 < w1.heap.size := (by omega))); have hB : Below w.heap.size w w1 := (by refine Below.on ?_ ?_ hb <;> go_grown); clear hb)
    | (go_at_call 40; refine (leMinute_any _ _).mono ?_; rintro e w1 ⟨rfl, hb⟩; obtain ⟨hc, hf, hz⟩ := bcell hb; (try simp at hz); (try (have k0 : w.heap.size < w1.heap.size := (by omega))); (try (have k1 : w.heap.size + 1 < w1.heap.size := (by omega))); (try (have k2 : w.heap.size + 1 + 1 < w1.heap.size := (by omega))); have hB : Below w.heap.size w w1 := (by refine Below.on ?_ ?_ hb <;> go_grown); clear hb))
  all_goals go_ret2
  all_goals (go_tidy; refine RV.mk ?_ ?_; (· first | (simp [earlyF, asksB, minB0]; done) | (simp_all [earlyF, asksB, minB0]; done) | (simp_all [earlyF, asksB, minB0] <;> omega) | (simp_all [earlyF, asksB, minB0] <;> split <;> (try simp_all) <;> omega) | (simp_all [earlyF, asksB, minB0] <;> (repeat' split) <;> first | omega | (simp_all; done) | (simp_all; omega))); (· go_grown))
set_option maxHeartbeats 400000 in
theorem EarliestTakeover_impl (h u r s : Int) (w : World) : Calls Tryd.prog 13 #[.agg #[.int .i64 h, .int .i64 u], .int .i64 r, .int .i64 s] w (RV w (.tuple #[.int .i64 (earlyF h u r s).1, .bool (earlyF h u r s).2])) := by
  go_enter Tryd.func13, Tryd.ntmps13
  go_wp2_with (first
    | (go_at_call 37; refine (isLease_any _ _ _).mono ?_; rintro e w1 ⟨rfl, hb⟩; obtain ⟨hc, hf, hz⟩ := bcell hb; (try simp at hz); (try (have k0 : w.heap.size < w1.heap.size := (by omega))); (try (have k1 : w.heap.size + 1 < w1.heap.size := (by omega))); (try (have k2 : w.heap.size + 1 + 1 < w1.heap.size := (by omega))); have hB : Below w.heap.size w w1 := (by refine Below.on ?_ ?_ hb <;> go_grown); clear hb)
    | (go_at_call 38; refine (isRoom_any _ _).mono ?_; rintro e w1 ⟨rfl, hb⟩; obtain ⟨hc, hf, hz⟩ := bcell hb; (try simp at hz); (try (have k0 : w.heap.size < w1.heap.size := (by omega))); (try (have k1 : w.heap.size + 1 < w1.heap.size := (by omega))); (try (have k2 : w.heap.size + 1 + 1 < w1.heap.size := (by omega))); have hB : Below w.heap.size w w1 := (by refine Below.on ?_ ?_ hb <;> go_grown); clear hb)
    | (go_at_call 28; refine (inside_any _ _ _ _).mono ?_; rintro e w1 ⟨rfl, hb⟩; obtain ⟨hc, hf, hz⟩ := bcell hb; (try simp at hz); (try (have k0 : w.heap.size < w1.heap.size := (by omega))); (try (have k1 : w.heap.size + 1 < w1.heap.size := (by omega))); (try (have k2 : w.heap.size + 1 + 1 < w1.heap.size := (by omega))); have hB : Below w.heap.size w w1 := (by refine Below.on ?_ ?_ hb <;> go_grown); clear hb)
    | (go_at_call 39; refine (isLogMinute_any _ _).mono ?_; rintro e w1 ⟨rfl, hb⟩; obtain ⟨hc, hf, hz⟩ := bcell hb; (try simp at hz); (try (have k0 : w.heap.size < w1.heap.size := (by omega))); (try (have k1 : w.heap.size + 1 < w1.heap.size := (by omega))); (try (have k2 : w.heap.size + 1 + 1 < w1.heap.size := (by omega))); have hB : Below w.heap.size w w1 := (by refine Below.on ?_ ?_ hb <;> go_grown); clear hb))
  all_goals go_ret2
  all_goals (go_tidy; refine RV.mk ?_ ?_; (· first | (simp [earlyF]; done) | (simp_all [earlyF]; done) | (simp_all [earlyF] <;> omega) | (simp_all [earlyF] <;> split <;> (try simp_all) <;> omega) | (simp_all [earlyF] <;> (repeat' split) <;> first | omega | (simp_all; done) | (simp_all; omega))); (· go_grown))
end Go.Proofs.YtacjdapfbmdddaaDoor

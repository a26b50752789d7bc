/- Drawn leases. No conditions. -/
import Derived.Test.YtacjdapfbmdddaaDoorDrwL
namespace Go.Proofs.YtacjdapfbmdddaaDoor
open Go.RowKit

set_option maxHeartbeats 4000000 in
theorem DrawTakeLease_any (A : Option Addr) (c : Nat) (l : List Int) (w : World) (hl : l.length ≤ maxLen) (hm : ∀ x ∈ l, 0 ≤ x ∧ x ≤ 255) (hS : Sl byE 1 w 0 w.heap.size A l) :
    Calls Tryd.prog 4 #[.slice A l.length c] w fun e w' => ∃ h u r m s q : Int, e = .returned (.tuple #[.agg #[.int .i64 h, .int .i64 u], .int .i64 r, .int .i64 m, .int .i64 s, .int .i64 q]) ∧ Below w.heap.size w w' := by
  have hR := (BN.new w #[.int .i64 0, .int .i64 0] 24 _ rfl).alloc (by simp) (.cells #[.slice A l.length c, .int .i64 0, .int .u64 0] 45)
  have hC0 := Cur.new (w.alloc (.cells #[.int .i64 0, .int .i64 0] 24)) A c l 45 (w.heap.size + 1) (by simp) (hS.alloc _).all hm hl
  have hB : Below w.heap.size w ((w.alloc (.cells #[.int .i64 0, .int .i64 0] 24)).alloc (.cells #[.slice A l.length c, .int .i64 0, .int .u64 0] 45)) := by go_grown
  have hw := hR.lt (by simp)
  go_enter Tryd.func4, Tryd.ntmps4
  go_wp2_with fail
  refine (lease_any (w.heap.size + 1) A c l (0) _ hC0 (by omega)).mono ?_
  rintro e w1 ⟨h, u, rfl, hC1, hFn⟩
  replace hR := hR.fr hFn (by simp) (by omega)
  replace hB := hB.trans (hFn.below (B := w.heap.size) (by omega) (by have := hB.size; omega))
  clear hFn hC0
  go_wp2_with fail
  refine (roomOf_any (w.heap.size + 1) A c l (0 + 12) _ hC1 (by omega)).mono ?_
  rintro e w2 ⟨r, rfl, hC2, hFn⟩
  replace hR := hR.fr hFn (by simp) (by omega)
  replace hB := hB.trans (hFn.below (B := w.heap.size) (by omega) (by have := hB.size; omega))
  clear hFn hC1
  go_wp2_with fail
  refine (leaseMinute_any (w.heap.size + 1) A c l (0 + 12 + 4) _ hC2 (by omega)).mono ?_
  rintro e w3 ⟨m, rfl, hC3, hFn⟩
  replace hR := hR.fr hFn (by simp) (by omega)
  replace hB := hB.trans (hFn.below (B := w.heap.size) (by omega) (by have := hB.size; omega))
  clear hFn hC2
  go_wp2_with fail
  refine (skewOf_any (w.heap.size + 1) A c l (0 + 12 + 4 + 6) _ hC3 (by omega)).mono ?_
  rintro e w4 ⟨s, rfl, hC4, hFn⟩
  replace hR := hR.fr hFn (by simp) (by omega)
  replace hB := hB.trans (hFn.below (B := w.heap.size) (by omega) (by have := hB.size; omega))
  clear hFn hC3
  go_wp2_with fail
  refine (leaseLength_any (w.heap.size + 1) A c l (0 + 12 + 4 + 6 + 4) _ hC4 (by omega)).mono ?_
  rintro e w5 ⟨q, rfl, hC5, hFn⟩
  replace hR := hR.fr hFn (by simp) (by omega)
  replace hB := hB.trans (hFn.below (B := w.heap.size) (by omega) (by have := hB.size; omega))
  clear hFn hC4
  clear hC5
  have hw2 := hR.lt (by simp)
  have hR' := (hR.put (i := 0) rfl (.int .i64 h)).put (i := 1) rfl (.int .i64 u)
  have hFs : Fr w.heap.size (w.heap.size + 1) w5 ((w5.setCell ⟨w.heap.size, 0, none⟩ (.int .i64 h)).setCell ⟨w.heap.size, 1, none⟩ (.int .i64 u)) := ((Fr.refl _ _ _).setCell ⟨by simp, by simp⟩ _).setCell ⟨by simp, by simp⟩ _
  have hB' := hB.trans (hFs.below (B := w.heap.size) (Nat.le_refl _) (by omega))
  have r0 := (hR 0 _ rfl).1
  have r1 := (hR 1 _ rfl).1
  have g0 := (hR 0 _ rfl).2
  have g1 := (hR 1 _ rfl).2
  have x0 := (hR' 0 _ rfl).1
  have x1 := (hR' 1 _ rfl).1
  go_wp2
  refine bodyPost_ret (by simp [results, Tryd.results4, go_sem, x0, x1]; try rfl) rfl ?_
  exact ⟨h, u, r, m, s, q, rfl, hB'⟩
set_option maxHeartbeats 4000000 in
theorem DrawHolderAt_any (A : Option Addr) (c : Nat) (l : List Int) (w : World) (hl : l.length ≤ maxLen) (hm : ∀ x ∈ l, 0 ≤ x ∧ x ≤ 255) (hS : Sl byE 1 w 0 w.heap.size A l) :
    Calls Tryd.prog 15 #[.slice A l.length c] w fun e w' => ∃ h u m : Int, e = .returned (.tuple #[.agg #[.int .i64 h, .int .i64 u], .int .i64 m]) ∧ Below w.heap.size w w' := by
  have hR := (BN.new w #[.int .i64 0, .int .i64 0] 24 _ rfl).alloc (by simp) (.cells #[.slice A l.length c, .int .i64 0, .int .u64 0] 45)
  have hC0 := Cur.new (w.alloc (.cells #[.int .i64 0, .int .i64 0] 24)) A c l 45 (w.heap.size + 1) (by simp) (hS.alloc _).all hm hl
  have hB : Below w.heap.size w ((w.alloc (.cells #[.int .i64 0, .int .i64 0] 24)).alloc (.cells #[.slice A l.length c, .int .i64 0, .int .u64 0] 45)) := by go_grown
  have hw := hR.lt (by simp)
  go_enter Tryd.func15, Tryd.ntmps15
  go_wp2_with fail
  refine (lease_any (w.heap.size + 1) A c l (0) _ hC0 (by omega)).mono ?_
  rintro e w1 ⟨h, u, rfl, hC1, hFn⟩
  replace hR := hR.fr hFn (by simp) (by omega)
  replace hB := hB.trans (hFn.below (B := w.heap.size) (by omega) (by have := hB.size; omega))
  clear hFn hC0
  go_wp2_with fail
  refine (leaseMinute_any (w.heap.size + 1) A c l (0 + 12) _ hC1 (by omega)).mono ?_
  rintro e w2 ⟨m, rfl, hC2, hFn⟩
  replace hR := hR.fr hFn (by simp) (by omega)
  replace hB := hB.trans (hFn.below (B := w.heap.size) (by omega) (by have := hB.size; omega))
  clear hFn hC1
  clear hC2
  have hw2 := hR.lt (by simp)
  have hR' := (hR.put (i := 0) rfl (.int .i64 h)).put (i := 1) rfl (.int .i64 u)
  have hFs : Fr w.heap.size (w.heap.size + 1) w2 ((w2.setCell ⟨w.heap.size, 0, none⟩ (.int .i64 h)).setCell ⟨w.heap.size, 1, none⟩ (.int .i64 u)) := ((Fr.refl _ _ _).setCell ⟨by simp, by simp⟩ _).setCell ⟨by simp, by simp⟩ _
  have hB' := hB.trans (hFs.below (B := w.heap.size) (Nat.le_refl _) (by omega))
  have r0 := (hR 0 _ rfl).1
  have r1 := (hR 1 _ rfl).1
  have g0 := (hR 0 _ rfl).2
  have g1 := (hR 1 _ rfl).2
  have x0 := (hR' 0 _ rfl).1
  have x1 := (hR' 1 _ rfl).1
  go_wp2
  refine bodyPost_ret (by simp [results, Tryd.results15, go_sem, x0, x1]; try rfl) rfl ?_
  exact ⟨h, u, m, rfl, hB'⟩
set_option maxHeartbeats 4000000 in
theorem DrawIsLease_any (A : Option Addr) (c : Nat) (l : List Int) (w : World) (hl : l.length ≤ maxLen) (hm : ∀ x ∈ l, 0 ≤ x ∧ x ≤ 255) (hS : Sl byE 1 w 0 w.heap.size A l) :
    Calls Tryd.prog 42 #[.slice A l.length c] w fun e w' => ∃ h u : Int, e = .returned (.agg #[.int .i64 h, .int .i64 u]) ∧ Below w.heap.size w w' := by
  have hR := (BN.new w #[.int .i64 0, .int .i64 0] 24 _ rfl).alloc (by simp) (.cells #[.slice A l.length c, .int .i64 0, .int .u64 0] 45)
  have hC0 := Cur.new (w.alloc (.cells #[.int .i64 0, .int .i64 0] 24)) A c l 45 (w.heap.size + 1) (by simp) (hS.alloc _).all hm hl
  have hB : Below w.heap.size w ((w.alloc (.cells #[.int .i64 0, .int .i64 0] 24)).alloc (.cells #[.slice A l.length c, .int .i64 0, .int .u64 0] 45)) := by go_grown
  have hw := hR.lt (by simp)
  go_enter Tryd.func42, Tryd.ntmps42
  go_wp2_with fail
  refine (lease_any (w.heap.size + 1) A c l (0) _ hC0 (by omega)).mono ?_
  rintro e w1 ⟨h, u, rfl, hC1, hFn⟩
  replace hR := hR.fr hFn (by simp) (by omega)
  replace hB := hB.trans (hFn.below (B := w.heap.size) (by omega) (by have := hB.size; omega))
  clear hFn hC0
  clear hC1
  have hw2 := hR.lt (by simp)
  have hR' := (hR.put (i := 0) rfl (.int .i64 h)).put (i := 1) rfl (.int .i64 u)
  have hFs : Fr w.heap.size (w.heap.size + 1) w1 ((w1.setCell ⟨w.heap.size, 0, none⟩ (.int .i64 h)).setCell ⟨w.heap.size, 1, none⟩ (.int .i64 u)) := ((Fr.refl _ _ _).setCell ⟨by simp, by simp⟩ _).setCell ⟨by simp, by simp⟩ _
  have hB' := hB.trans (hFs.below (B := w.heap.size) (Nat.le_refl _) (by omega))
  have r0 := (hR 0 _ rfl).1
  have r1 := (hR 1 _ rfl).1
  have g0 := (hR 0 _ rfl).2
  have g1 := (hR 1 _ rfl).2
  have x0 := (hR' 0 _ rfl).1
  have x1 := (hR' 1 _ rfl).1
  go_wp2
  refine bodyPost_ret (by simp [results, Tryd.results42, go_sem, x0, x1]; try rfl) rfl ?_
  exact ⟨h, u, rfl, hB'⟩
set_option maxHeartbeats 4000000 in
theorem DrawLeaseText_any (A : Option Addr) (c : Nat) (l : List Int) (w : World) (hl : l.length ≤ maxLen) (hm : ∀ x ∈ l, 0 ≤ x ∧ x ≤ 255) (hS : Sl byE 1 w 0 w.heap.size A l) :
    Calls Tryd.prog 18 #[.slice A l.length c] w fun e w' => ∃ h u : Int, e = .returned (.agg #[.int .i64 h, .int .i64 u]) ∧ Below w.heap.size w w' := by
  have hR := BN.new w #[.int .i64 0, .int .i64 0] 24 _ rfl
  have hB : Below w.heap.size w (w.alloc (.cells #[.int .i64 0, .int .i64 0] 24)) := by go_grown
  go_enter Tryd.func18, Tryd.ntmps18
  go_wp2_with fail
  refine (DrawIsLease_any A c l _ hl hm (hS.alloc _).all).mono ?_
  rintro e w1 ⟨h, u, rfl, hb⟩
  replace hR := hR.below (by simp) hb
  replace hB := Below.on' hB hb
  have hw := hR.lt (by simp)
  have hR' := (hR.put (i := 0) rfl (.int .i64 h)).put (i := 1) rfl (.int .i64 u)
  have hFs : Fr w.heap.size (w.heap.size + 1) w1 ((w1.setCell ⟨w.heap.size, 0, none⟩ (.int .i64 h)).setCell ⟨w.heap.size, 1, none⟩ (.int .i64 u)) := ((Fr.refl _ _ _).setCell ⟨by simp, by simp⟩ _).setCell ⟨by simp, by simp⟩ _
  have hB' := hB.trans (hFs.below (B := w.heap.size) (Nat.le_refl _) (by omega))
  have r0 := (hR 0 _ rfl).1
  have r1 := (hR 1 _ rfl).1
  have g0 := (hR 0 _ rfl).2
  have g1 := (hR 1 _ rfl).2
  have x0 := (hR' 0 _ rfl).1
  have x1 := (hR' 1 _ rfl).1
  go_wp2
  refine bodyPost_ret (by simp [results, Tryd.results18, go_sem, x0, x1]; try rfl) rfl ?_
  exact ⟨h, u, rfl, hB'⟩
end Go.Proofs.YtacjdapfbmdddaaDoor

/- Drawing leases: what comes out is some number or some lease. Conditions: a valid cursor, fewer than 2^39 steps; at most 2^20 bytes. -/
import Derived.Test.YtacjdapfbmdddaaDoorDrwB
import Derived.Test.YtacjdapfbmdddaaDoorByt
namespace Go.Proofs.YtacjdapfbmdddaaDoor
open Go.RowKit

set_option maxHeartbeats 4000000 in
theorem leaseMinute_any (pb : Nat) (A : Option Addr) (c : Nat) (l : List Int) (N : Nat) (w : World) (hC : Cur pb A c l N w) (hN : N ≤ 900000000000) :
    Calls Tryd.prog 24 #[.pointer (some ⟨pb, 0, none⟩)] w (CI pb A c l (N + 6) w) := by
  have hpb := hC.lt
  have hF := Fr.refl pb (pb + 1) w
  go_enter Tryd.func24, Tryd.ntmps24
  go_wp2_with fail
  refine (pick_any pb A c l (N) 70 _ hC (by omega) (by omega)).mono ?_
  rintro e w1 ⟨_, rfl, ⟨k0, rfl, _⟩, hC1, hFn⟩
  replace hF := hF.trans hFn
  clear hFn
  have hl1 := hC1.lt
  go_wp2_with fail
  refine (among_lit pb A c l (N + 2) [-1, 100000, -9223372036854775808] 3 rfl _ _ _ _ (by simp) rfl hC1 (by omega) (by simp) (by simp)).mono ?_
  rintro e w2 ⟨k1, _, rfl, hC2, hFn⟩
  replace hF := hF.trans hFn
  clear hFn
  clear hC1
  have hl2 := hC2.lt
  go_wp2_with fail
  refine (among_lit pb A c l (N + 4) [0, 7, 8, 10, 12, 20, 30, (k0 : Int), 99999, k1] 10 rfl _ _ _ _ (by simp) rfl hC2 (by omega) (by simp) (by simp)).mono ?_
  rintro e w3 ⟨k2, _, rfl, hC3, hFn⟩
  replace hF := hF.trans hFn
  clear hFn
  clear hC2
  have hl3 := hC3.lt
  go_wp2
  go_ret
  exact ⟨k2, rfl, hC3, hF⟩
set_option maxHeartbeats 4000000 in
theorem skewOf_any (pb : Nat) (A : Option Addr) (c : Nat) (l : List Int) (N : Nat) (w : World) (hC : Cur pb A c l N w) (hN : N ≤ 900000000000) :
    Calls Tryd.prog 25 #[.pointer (some ⟨pb, 0, none⟩)] w (CI pb A c l (N + 4) w) := by
  have hpb := hC.lt
  have hF := Fr.refl pb (pb + 1) w
  go_enter Tryd.func25, Tryd.ntmps25
  go_wp2_with fail
  refine (among_lit pb A c l (N) [-1, 11] 2 rfl _ _ _ _ (by simp) rfl hC (by omega) (by simp) (by simp)).mono ?_
  rintro e w1 ⟨k1, _, rfl, hC1, hFn⟩
  replace hF := hF.trans hFn
  clear hFn
  have hl1 := hC1.lt
  go_wp2_with fail
  refine (among_lit pb A c l (N + 2) [0, 1, 2, 2, 10, k1] 6 rfl _ _ _ _ (by simp) rfl hC1 (by omega) (by simp) (by simp)).mono ?_
  rintro e w2 ⟨k2, _, rfl, hC2, hFn⟩
  replace hF := hF.trans hFn
  clear hFn
  clear hC1
  have hl2 := hC2.lt
  go_wp2
  go_ret
  exact ⟨k2, rfl, hC2, hF⟩
set_option maxHeartbeats 4000000 in
theorem leaseLength_any (pb : Nat) (A : Option Addr) (c : Nat) (l : List Int) (N : Nat) (w : World) (hC : Cur pb A c l N w) (hN : N ≤ 900000000000) :
    Calls Tryd.prog 26 #[.pointer (some ⟨pb, 0, none⟩)] w (CI pb A c l (N + 4) w) := by
  have hpb := hC.lt
  have hF := Fr.refl pb (pb + 1) w
  go_enter Tryd.func26, Tryd.ntmps26
  go_wp2_with fail
  refine (among_lit pb A c l (N) [0, 601] 2 rfl _ _ _ _ (by simp) rfl hC (by omega) (by simp) (by simp)).mono ?_
  rintro e w1 ⟨k1, _, rfl, hC1, hFn⟩
  replace hF := hF.trans hFn
  clear hFn
  have hl1 := hC1.lt
  go_wp2_with fail
  refine (among_lit pb A c l (N + 2) [5, 10, 20, 1, 600, k1] 6 rfl _ _ _ _ (by simp) rfl hC1 (by omega) (by simp) (by simp)).mono ?_
  rintro e w2 ⟨k2, _, rfl, hC2, hFn⟩
  replace hF := hF.trans hFn
  clear hFn
  clear hC1
  have hl2 := hC2.lt
  go_wp2
  go_ret
  exact ⟨k2, rfl, hC2, hF⟩
set_option maxHeartbeats 4000000 in
theorem roomOf_any (pb : Nat) (A : Option Addr) (c : Nat) (l : List Int) (N : Nat) (w : World) (hC : Cur pb A c l N w) (hN : N ≤ 900000000000) :
    Calls Tryd.prog 23 #[.pointer (some ⟨pb, 0, none⟩)] w (CI pb A c l (N + 4) w) := by
  have hpb := hC.lt
  have hF := Fr.refl pb (pb + 1) w
  go_enter Tryd.func23, Tryd.ntmps23
  go_wp2_with fail
  refine (among_lit pb A c l (N) [0, 3] 2 rfl _ _ _ _ (by simp) rfl hC (by omega) (by simp) (by simp)).mono ?_
  rintro e w1 ⟨k1, _, rfl, hC1, hFn⟩
  replace hF := hF.trans hFn
  clear hFn
  have hl1 := hC1.lt
  go_wp2_with fail
  refine (among_lit pb A c l (N + 2) [1, 2, 1, 2, 1, 2, k1] 7 rfl _ _ _ _ (by simp) rfl hC1 (by omega) (by simp) (by simp)).mono ?_
  rintro e w2 ⟨k2, _, rfl, hC2, hFn⟩
  replace hF := hF.trans hFn
  clear hFn
  clear hC1
  have hl2 := hC2.lt
  go_wp2
  go_ret
  exact ⟨k2, rfl, hC2, hF⟩
set_option maxRecDepth 10000 in
set_option maxHeartbeats 4000000 in
theorem lease_any (pb : Nat) (A : Option Addr) (c : Nat) (l : List Int) (N : Nat) (w : World) (hC : Cur pb A c l N w) (hN : N ≤ 800000000000) :
    Calls Tryd.prog 22 #[.pointer (some ⟨pb, 0, none⟩)] w fun e w' => ∃ h u : Int, e = .returned (.agg #[.int .i64 h, .int .i64 u]) ∧ Cur pb A c l (N + 12) w' ∧ Fr pb (pb + 1) w w' := by
  have hpb := hC.lt
  have hR := BN.new w #[.int .i64 0, .int .i64 0] 24 _ rfl
  have hF := (Fr.refl pb (pb + 1) w).alloc (.cells #[.int .i64 0, .int .i64 0] 24)
  have hC0 := hC.alloc (.cells #[.int .i64 0, .int .i64 0] 24)
  go_enter Tryd.func22, Tryd.ntmps22
  go_wp2_with fail
  refine (among_lit pb A c l (N) [0, 1, 1, 2, 2] 5 rfl _ _ _ _ (by simp) rfl hC0 (by omega) (by simp) (by simp)).mono ?_
  rintro e w1 ⟨k1, _, rfl, hC1, hFn⟩
  replace hR := hR.fr hFn (by simp) (by omega)
  replace hF := hF.trans hFn
  clear hFn
  clear hC0
  have hl1 := hC1.lt
  have hw1 := hR.lt (by simp)
  have hY := BN.new w1 #[.int .i64 k1, .int .i64 0] 24 _ rfl
  replace hR := hR.alloc (by simp) (.cells #[.int .i64 k1, .int .i64 0] 24)
  replace hF := hF.alloc (.cells #[.int .i64 k1, .int .i64 0] 24)
  have hCb := hC1.alloc (.cells #[.int .i64 k1, .int .i64 0] 24)
  clear hC1
  have y0 := (hY 0 _ rfl).1
  by_cases hp : 0 < k1
  · skip
    go_wp2_with fail
    refine (pick_any pb A c l (N + 2) 60 _ hCb (by omega) (by omega)).mono ?_
    rintro e w2 ⟨_, rfl, ⟨k2, rfl, _⟩, hC2, hFn⟩
    replace hR := hR.fr hFn (by simp) (by omega)
    replace hY := hY.fr hFn (by simp) (by omega)
    replace hF := hF.trans hFn
    clear hFn
    clear hCb
    have hl2 := hC2.lt
    clear y0
    go_wp2_with fail
    refine (among_lit pb A c l (N + 4) [0, 10, 20, 30, 99999, (k2 : Int)] 6 rfl _ _ _ _ (by simp) rfl hC2 (by omega) (by simp) (by simp)).mono ?_
    rintro e w3 ⟨k3, _, rfl, hC3, hFn⟩
    replace hR := hR.fr hFn (by simp) (by omega)
    replace hY := hY.fr hFn (by simp) (by omega)
    replace hF := hF.trans hFn
    clear hFn
    clear hC2
    have hl3 := hC3.lt
    have y0 := (hY 0 _ rfl).1
    have z0 := (hY 0 _ rfl).2
    have y1 := (hY 1 _ rfl).1
    have z1 := (hY 1 _ rfl).2
    have hYs := hY.put (i := 1) rfl (.int .i64 k3)
    have hRs := hR.off (p := ⟨w1.heap.size, 1, none⟩) (by simp; omega) (.int .i64 k3)
    have hFs := hF.setNew (p := ⟨w1.heap.size, 1, none⟩) (by simp; omega) (.int .i64 k3)
    have hCs := hC3.set (p := ⟨w1.heap.size, 1, none⟩) (by simp; omega) (.int .i64 k3)
    go_wp2_with fail
    clear y0 y1 z0 z1 hY hR hF hC3
    have hY := hYs
    have hR := hRs
    have hF := hFs
    clear hYs hRs hFs
    refine (pick_any pb A c l (N + 6) 40 _ hCs (by omega) (by omega)).mono ?_
    rintro e w4 ⟨_, rfl, ⟨k, rfl, _⟩, hC4, hFn⟩
    replace hR := hR.fr hFn (by simp) (by omega)
    replace hY := hY.fr hFn (by simp) (by omega)
    replace hF := hF.trans hFn
    clear hFn
    clear hCs
    have hl4 := hC4.lt
    by_cases e0 : k = 0
    · have q0 : ((k : Int) == 0) = true := by simp [e0]
      clear e0
      go_wp2_with fail
      refine (among_lit pb A c l (N + 8) [3, -1] 2 rfl _ _ _ _ (by simp) rfl hC4 (by omega) (by simp) (by simp)).mono ?_
      rintro e w5 ⟨k5, _, rfl, hC5, hFn⟩
      replace hR := hR.fr hFn (by simp) (by omega)
      replace hY := hY.fr hFn (by simp) (by omega)
      replace hF := hF.trans hFn
      clear hFn
      clear hC4
      have hl5 := hC5.lt
      have y0 := (hY 0 _ rfl).1
      have z0 := (hY 0 _ rfl).2
      have y1 := (hY 1 _ rfl).1
      have z1 := (hY 1 _ rfl).2
      have hR' := (((hR.off (p := ⟨w1.heap.size, 0, none⟩) (by simp; omega) (.int .i64 k5)).put (i := 0) rfl (.int .i64 k5)).put (i := 1) rfl (.int .i64 k3))
      have hC' := (((hC5.set (p := ⟨w1.heap.size, 0, none⟩) (by simp; omega) (.int .i64 k5)).set (p := ⟨w.heap.size, 0, none⟩) (by simp; omega) (.int .i64 k5)).set (p := ⟨w.heap.size, 1, none⟩) (by simp; omega) (.int .i64 k3))
      have hF' := (((hF.setNew (p := ⟨w1.heap.size, 0, none⟩) (by simp; omega) (.int .i64 k5)).setNew (p := ⟨w.heap.size, 0, none⟩) (by simp) (.int .i64 k5)).setNew (p := ⟨w.heap.size, 1, none⟩) (by simp) (.int .i64 k3))
      have r0 := (hR 0 _ rfl).1
      have g0 := (hR 0 _ rfl).2
      have x0 := (hR' 0 _ rfl).1
      have r1 := (hR 1 _ rfl).1
      have g1 := (hR 1 _ rfl).2
      have x1 := (hR' 1 _ rfl).1
      go_wp2
      refine bodyPost_ret (by simp [results, Tryd.results22, go_sem, x0, x1]; try rfl) rfl ?_
      exact ⟨k5, k3, rfl, hC'.more (by omega), hF'⟩
    have q0 : ((k : Int) == 0) = false := by simp; omega
    clear e0
    by_cases e1 : k = 1
    · have q1 : ((k : Int) == 1) = true := by simp [e1]
      clear e1
      go_wp2_with fail
      refine (among_lit pb A c l (N + 8) [-1, 100000, 5] 3 rfl _ _ _ _ (by simp) rfl hC4 (by omega) (by simp) (by simp)).mono ?_
      rintro e w5 ⟨k5, _, rfl, hC5, hFn⟩
      replace hR := hR.fr hFn (by simp) (by omega)
      replace hY := hY.fr hFn (by simp) (by omega)
      replace hF := hF.trans hFn
      clear hFn
      clear hC4
      have hl5 := hC5.lt
      have y0 := (hY 0 _ rfl).1
      have z0 := (hY 0 _ rfl).2
      have y1 := (hY 1 _ rfl).1
      have z1 := (hY 1 _ rfl).2
      have hR' := (((hR.off (p := ⟨w1.heap.size, 1, none⟩) (by simp; omega) (.int .i64 k5)).put (i := 0) rfl (.int .i64 k1)).put (i := 1) rfl (.int .i64 k5))
      have hC' := (((hC5.set (p := ⟨w1.heap.size, 1, none⟩) (by simp; omega) (.int .i64 k5)).set (p := ⟨w.heap.size, 0, none⟩) (by simp; omega) (.int .i64 k1)).set (p := ⟨w.heap.size, 1, none⟩) (by simp; omega) (.int .i64 k5))
      have hF' := (((hF.setNew (p := ⟨w1.heap.size, 1, none⟩) (by simp; omega) (.int .i64 k5)).setNew (p := ⟨w.heap.size, 0, none⟩) (by simp) (.int .i64 k1)).setNew (p := ⟨w.heap.size, 1, none⟩) (by simp) (.int .i64 k5))
      have r0 := (hR 0 _ rfl).1
      have g0 := (hR 0 _ rfl).2
      have x0 := (hR' 0 _ rfl).1
      have r1 := (hR 1 _ rfl).1
      have g1 := (hR 1 _ rfl).2
      have x1 := (hR' 1 _ rfl).1
      go_wp2
      refine bodyPost_ret (by simp [results, Tryd.results22, go_sem, x0, x1]; try rfl) rfl ?_
      exact ⟨k1, k5, rfl, hC'.more (by omega), hF'⟩
    have q1 : ((k : Int) == 1) = false := by simp; omega
    clear e1
    have y0 := (hY 0 _ rfl).1
    have z0 := (hY 0 _ rfl).2
    have y1 := (hY 1 _ rfl).1
    have z1 := (hY 1 _ rfl).2
    have hR' := ((hR.put (i := 0) rfl (.int .i64 k1)).put (i := 1) rfl (.int .i64 k3))
    have hC' := ((hC4.set (p := ⟨w.heap.size, 0, none⟩) (by simp; omega) (.int .i64 k1)).set (p := ⟨w.heap.size, 1, none⟩) (by simp; omega) (.int .i64 k3))
    have hF' := ((hF.setNew (p := ⟨w.heap.size, 0, none⟩) (by simp) (.int .i64 k1)).setNew (p := ⟨w.heap.size, 1, none⟩) (by simp) (.int .i64 k3))
    have r0 := (hR 0 _ rfl).1
    have g0 := (hR 0 _ rfl).2
    have x0 := (hR' 0 _ rfl).1
    have r1 := (hR 1 _ rfl).1
    have g1 := (hR 1 _ rfl).2
    have x1 := (hR' 1 _ rfl).1
    go_wp2
    refine bodyPost_ret (by simp [results, Tryd.results22, go_sem, x0, x1]; try rfl) rfl ?_
    exact ⟨k1, k3, rfl, hC'.more (by omega), hF'⟩
  go_wp2_with fail
  refine (pick_any pb A c l (N + 2) 40 _ hCb (by omega) (by omega)).mono ?_
  rintro e w2 ⟨_, rfl, ⟨k, rfl, _⟩, hC2, hFn⟩
  replace hR := hR.fr hFn (by simp) (by omega)
  replace hY := hY.fr hFn (by simp) (by omega)
  replace hF := hF.trans hFn
  clear hFn
  clear hCb
  have hl2 := hC2.lt
  by_cases e0 : k = 0
  · have q0 : ((k : Int) == 0) = true := by simp [e0]
    clear e0
    go_wp2_with fail
    refine (among_lit pb A c l (N + 4) [3, -1] 2 rfl _ _ _ _ (by simp) rfl hC2 (by omega) (by simp) (by simp)).mono ?_
    rintro e w3 ⟨k5, _, rfl, hC3, hFn⟩
    replace hR := hR.fr hFn (by simp) (by omega)
    replace hY := hY.fr hFn (by simp) (by omega)
    replace hF := hF.trans hFn
    clear hFn
    clear hC2
    have hl3 := hC3.lt
    have y0 := (hY 0 _ rfl).1
    have z0 := (hY 0 _ rfl).2
    have y1 := (hY 1 _ rfl).1
    have z1 := (hY 1 _ rfl).2
    have hR' := (((hR.off (p := ⟨w1.heap.size, 0, none⟩) (by simp; omega) (.int .i64 k5)).put (i := 0) rfl (.int .i64 k5)).put (i := 1) rfl (.int .i64 0))
    have hC' := (((hC3.set (p := ⟨w1.heap.size, 0, none⟩) (by simp; omega) (.int .i64 k5)).set (p := ⟨w.heap.size, 0, none⟩) (by simp; omega) (.int .i64 k5)).set (p := ⟨w.heap.size, 1, none⟩) (by simp; omega) (.int .i64 0))
    have hF' := (((hF.setNew (p := ⟨w1.heap.size, 0, none⟩) (by simp; omega) (.int .i64 k5)).setNew (p := ⟨w.heap.size, 0, none⟩) (by simp) (.int .i64 k5)).setNew (p := ⟨w.heap.size, 1, none⟩) (by simp) (.int .i64 0))
    have r0 := (hR 0 _ rfl).1
    have g0 := (hR 0 _ rfl).2
    have x0 := (hR' 0 _ rfl).1
    have r1 := (hR 1 _ rfl).1
    have g1 := (hR 1 _ rfl).2
    have x1 := (hR' 1 _ rfl).1
    go_wp2
    refine bodyPost_ret (by simp [results, Tryd.results22, go_sem, x0, x1]; try rfl) rfl ?_
    exact ⟨k5, 0, rfl, hC'.more (by omega), hF'⟩
  have q0 : ((k : Int) == 0) = false := by simp; omega
  clear e0
  by_cases e1 : k = 1
  · have q1 : ((k : Int) == 1) = true := by simp [e1]
    clear e1
    go_wp2_with fail
    refine (among_lit pb A c l (N + 4) [-1, 100000, 5] 3 rfl _ _ _ _ (by simp) rfl hC2 (by omega) (by simp) (by simp)).mono ?_
    rintro e w3 ⟨k5, _, rfl, hC3, hFn⟩
    replace hR := hR.fr hFn (by simp) (by omega)
    replace hY := hY.fr hFn (by simp) (by omega)
    replace hF := hF.trans hFn
    clear hFn
    clear hC2
    have hl3 := hC3.lt
    have y0 := (hY 0 _ rfl).1
    have z0 := (hY 0 _ rfl).2
    have y1 := (hY 1 _ rfl).1
    have z1 := (hY 1 _ rfl).2
    have hR' := (((hR.off (p := ⟨w1.heap.size, 1, none⟩) (by simp; omega) (.int .i64 k5)).put (i := 0) rfl (.int .i64 k1)).put (i := 1) rfl (.int .i64 k5))
    have hC' := (((hC3.set (p := ⟨w1.heap.size, 1, none⟩) (by simp; omega) (.int .i64 k5)).set (p := ⟨w.heap.size, 0, none⟩) (by simp; omega) (.int .i64 k1)).set (p := ⟨w.heap.size, 1, none⟩) (by simp; omega) (.int .i64 k5))
    have hF' := (((hF.setNew (p := ⟨w1.heap.size, 1, none⟩) (by simp; omega) (.int .i64 k5)).setNew (p := ⟨w.heap.size, 0, none⟩) (by simp) (.int .i64 k1)).setNew (p := ⟨w.heap.size, 1, none⟩) (by simp) (.int .i64 k5))
    have r0 := (hR 0 _ rfl).1
    have g0 := (hR 0 _ rfl).2
    have x0 := (hR' 0 _ rfl).1
    have r1 := (hR 1 _ rfl).1
    have g1 := (hR 1 _ rfl).2
    have x1 := (hR' 1 _ rfl).1
    go_wp2
    refine bodyPost_ret (by simp [results, Tryd.results22, go_sem, x0, x1]; try rfl) rfl ?_
    exact ⟨k1, k5, rfl, hC'.more (by omega), hF'⟩
  have q1 : ((k : Int) == 1) = false := by simp; omega
  clear e1
  have y0 := (hY 0 _ rfl).1
  have z0 := (hY 0 _ rfl).2
  have y1 := (hY 1 _ rfl).1
  have z1 := (hY 1 _ rfl).2
  have hR' := ((hR.put (i := 0) rfl (.int .i64 k1)).put (i := 1) rfl (.int .i64 0))
  have hC' := ((hC2.set (p := ⟨w.heap.size, 0, none⟩) (by simp; omega) (.int .i64 k1)).set (p := ⟨w.heap.size, 1, none⟩) (by simp; omega) (.int .i64 0))
  have hF' := ((hF.setNew (p := ⟨w.heap.size, 0, none⟩) (by simp) (.int .i64 k1)).setNew (p := ⟨w.heap.size, 1, none⟩) (by simp) (.int .i64 0))
  have r0 := (hR 0 _ rfl).1
  have g0 := (hR 0 _ rfl).2
  have x0 := (hR' 0 _ rfl).1
  have r1 := (hR 1 _ rfl).1
  have g1 := (hR 1 _ rfl).2
  have x1 := (hR' 1 _ rfl).1
  go_wp2
  refine bodyPost_ret (by simp [results, Tryd.results22, go_sem, x0, x1]; try rfl) rfl ?_
  exact ⟨k1, 0, rfl, hC'.more (by omega), hF'⟩
end Go.Proofs.YtacjdapfbmdddaaDoor

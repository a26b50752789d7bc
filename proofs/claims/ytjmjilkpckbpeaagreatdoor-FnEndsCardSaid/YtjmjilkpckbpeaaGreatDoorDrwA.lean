/- Drawing an appliance: what it returns, and that only the cursor changes. Conditions: a valid cursor, fewer than 2^39 steps. -/
import Derived.Test.YtjmjilkpckbpeaaGreatDoorDrw
namespace Go.Proofs.YtjmjilkpckbpeaaGreatDoor
open Go.RowKit

set_option maxRecDepth 10000 in
set_option maxHeartbeats 4000000 in
theorem appliance_any (pb : Nat) (A : Option Addr) (c : Nat) (l : List Int) (N : Nat) (nm : ByteArray) (nodes : Int) (w : World) (hC : Cur pb A c l N w) (hN : N ≤ 900000000000) (hn : nodes ≤ 9223372036854775807) :
    Calls Tryz.prog 147 #[.pointer (some ⟨pb, 0, none⟩), .string nm, .int .i64 nodes] w fun e w' => ∃ x : App, x.nm = nm ∧ e = .returned (.agg #[.string x.nm, .int .i64 x.kd, .int .i64 x.nd, .int .i64 x.cw, .int .i64 x.st]) ∧ Cur pb A c l (N + 12) w' ∧ Fr pb (pb + 1) w w' := by
  have hpb := hC.lt
  have hR := BN.new w #[.string ⟨#[]⟩, .int .i64 0, .int .i64 0, .int .i64 0, .int .i64 0] 73 _ rfl
  have hF := (Fr.refl pb (pb + 1) w).alloc (.cells #[.string ⟨#[]⟩, .int .i64 0, .int .i64 0, .int .i64 0, .int .i64 0] 73)
  have hC0 := hC.alloc (.cells #[.string ⟨#[]⟩, .int .i64 0, .int .i64 0, .int .i64 0, .int .i64 0] 73)
  go_enter Tryz.func147, Tryz.ntmps147
  go_wp2_with fail
  refine (among_lit pb A c l (N) [0, 0, 1, 2, 3] 5 rfl _ _ _ _ (by simp) rfl hC0 (by omega) (by simp) (by simp)).mono ?_
  rintro e w1 ⟨k1, _, rfl, hC1, hFn⟩
  replace hR := hR.fr hFn (by simp) (by omega)
  replace hF := hF.trans hFn
  clear hFn
  clear hC0
  have hl1 := hC1.lt
  go_wp2_with fail
  refine (pick_any pb A c l (N + 2) nodes _ hC1 (by omega) hn).mono ?_
  rintro e w2 ⟨_, rfl, ⟨k2, rfl, _⟩, hC2, hFn⟩
  replace hR := hR.fr hFn (by simp) (by omega)
  replace hF := hF.trans hFn
  clear hFn
  clear hC1
  have hl2 := hC2.lt
  go_wp2_with fail
  refine (among_lit pb A c l (N + 4) [6, 4, 3, 2, 1, 9] 6 rfl _ _ _ _ (by simp) rfl hC2 (by omega) (by simp) (by simp)).mono ?_
  rintro e w3 ⟨k3, _, rfl, hC3, hFn⟩
  replace hR := hR.fr hFn (by simp) (by omega)
  replace hF := hF.trans hFn
  clear hFn
  clear hC2
  have hl3 := hC3.lt
  go_wp2_with fail
  refine (among_lit pb A c l (N + 6) [0, 0, 0, 4, 1, 2, 3, 5] 8 rfl _ _ _ _ (by simp) rfl hC3 (by omega) (by simp) (by simp)).mono ?_
  rintro e w4 ⟨k4, _, rfl, hC4, hFn⟩
  replace hR := hR.fr hFn (by simp) (by omega)
  replace hF := hF.trans hFn
  clear hFn
  clear hC3
  have hl4 := hC4.lt
  have hw4 := hR.lt (by simp)
  have hY := BN.new w4 #[.string nm, .int .i64 k1, .int .i64 k2, .int .i64 k3, .int .i64 k4] 73 _ rfl
  replace hR := hR.alloc (by simp) (.cells #[.string nm, .int .i64 k1, .int .i64 k2, .int .i64 k3, .int .i64 k4] 73)
  replace hF := hF.alloc (.cells #[.string nm, .int .i64 k1, .int .i64 k2, .int .i64 k3, .int .i64 k4] 73)
  have hCb := hC4.alloc (.cells #[.string nm, .int .i64 k1, .int .i64 k2, .int .i64 k3, .int .i64 k4] 73)
  clear hC4
  go_wp2_with fail
  refine (pick_any pb A c l (N + 8) 80 _ hCb (by omega) (by omega)).mono ?_
  rintro e w5 ⟨_, rfl, ⟨k, rfl, _⟩, hC5, hFn⟩
  replace hR := hR.fr hFn (by simp) (by omega)
  replace hY := hY.fr hFn (by simp) (by omega)
  replace hF := hF.trans hFn
  clear hFn
  clear hCb
  have hl5 := hC5.lt
  by_cases e0 : k = 0
  · have q0 : ((k : Int) == 0) = true := by simp [e0]
    clear e0
    go_wp2_with fail
    refine (among_lit pb A c l (N + 10) [-1, 4] 2 rfl _ _ _ _ (by simp) rfl hC5 (by omega) (by simp) (by simp)).mono ?_
    rintro e w6 ⟨k5, _, rfl, hC6, hFn⟩
    replace hR := hR.fr hFn (by simp) (by omega)
    replace hY := hY.fr hFn (by simp) (by omega)
    replace hF := hF.trans hFn
    clear hFn
    clear hC5
    have hl6 := hC6.lt
    have y0 := (hY 0 _ rfl).1
    have z0 := (hY 0 _ rfl).2
    have y1 := (hY 1 _ rfl).1
    have z1 := (hY 1 _ rfl).2
    have y2 := (hY 2 _ rfl).1
    have z2 := (hY 2 _ rfl).2
    have y3 := (hY 3 _ rfl).1
    have z3 := (hY 3 _ rfl).2
    have y4 := (hY 4 _ rfl).1
    have z4 := (hY 4 _ rfl).2
    have hR' := ((((((hR.off (p := ⟨w4.heap.size, 1, none⟩) (by simp; omega) (.int .i64 k5)).put (i := 0) rfl (.string nm)).put (i := 1) rfl (.int .i64 k5)).put (i := 2) rfl (.int .i64 k2)).put (i := 3) rfl (.int .i64 k3)).put (i := 4) rfl (.int .i64 k4))
    have hC' := ((((((hC6.set (p := ⟨w4.heap.size, 1, none⟩) (by simp; omega) (.int .i64 k5)).set (p := ⟨w.heap.size, 0, none⟩) (by simp; omega) (.string nm)).set (p := ⟨w.heap.size, 1, none⟩) (by simp; omega) (.int .i64 k5)).set (p := ⟨w.heap.size, 2, none⟩) (by simp; omega) (.int .i64 k2)).set (p := ⟨w.heap.size, 3, none⟩) (by simp; omega) (.int .i64 k3)).set (p := ⟨w.heap.size, 4, none⟩) (by simp; omega) (.int .i64 k4))
    have hF' := ((((((hF.setNew (p := ⟨w4.heap.size, 1, none⟩) (by simp; omega) (.int .i64 k5)).setNew (p := ⟨w.heap.size, 0, none⟩) (by simp) (.string nm)).setNew (p := ⟨w.heap.size, 1, none⟩) (by simp) (.int .i64 k5)).setNew (p := ⟨w.heap.size, 2, none⟩) (by simp) (.int .i64 k2)).setNew (p := ⟨w.heap.size, 3, none⟩) (by simp) (.int .i64 k3)).setNew (p := ⟨w.heap.size, 4, none⟩) (by simp) (.int .i64 k4))
    have r0 := (hR 0 _ rfl).1
    have g0 := (hR 0 _ rfl).2
    have x0 := (hR' 0 _ rfl).1
    have r1 := (hR 1 _ rfl).1
    have g1 := (hR 1 _ rfl).2
    have x1 := (hR' 1 _ rfl).1
    have r2 := (hR 2 _ rfl).1
    have g2 := (hR 2 _ rfl).2
    have x2 := (hR' 2 _ rfl).1
    have r3 := (hR 3 _ rfl).1
    have g3 := (hR 3 _ rfl).2
    have x3 := (hR' 3 _ rfl).1
    have r4 := (hR 4 _ rfl).1
    have g4 := (hR 4 _ rfl).2
    have x4 := (hR' 4 _ rfl).1
    go_wp2
    refine bodyPost_ret (by simp [results, Tryz.results147, go_sem, x0, x1, x2, x3, x4]; try rfl) rfl ?_
    exact ⟨⟨nm, k5, k2, k3, k4⟩, rfl, rfl, hC', hF'⟩
  have q0 : ((k : Int) == 0) = false := by simp; omega
  clear e0
  by_cases e1 : k = 1
  · have q1 : ((k : Int) == 1) = true := by simp [e1]
    clear e1
    go_wp2_with fail
    refine (among_lit pb A c l (N + 10) [-1, 13, 14] 3 rfl _ _ _ _ (by simp) rfl hC5 (by omega) (by simp) (by simp)).mono ?_
    rintro e w6 ⟨k5, _, rfl, hC6, hFn⟩
    replace hR := hR.fr hFn (by simp) (by omega)
    replace hY := hY.fr hFn (by simp) (by omega)
    replace hF := hF.trans hFn
    clear hFn
    clear hC5
    have hl6 := hC6.lt
    have y0 := (hY 0 _ rfl).1
    have z0 := (hY 0 _ rfl).2
    have y1 := (hY 1 _ rfl).1
    have z1 := (hY 1 _ rfl).2
    have y2 := (hY 2 _ rfl).1
    have z2 := (hY 2 _ rfl).2
    have y3 := (hY 3 _ rfl).1
    have z3 := (hY 3 _ rfl).2
    have y4 := (hY 4 _ rfl).1
    have z4 := (hY 4 _ rfl).2
    have hR' := ((((((hR.off (p := ⟨w4.heap.size, 2, none⟩) (by simp; omega) (.int .i64 k5)).put (i := 0) rfl (.string nm)).put (i := 1) rfl (.int .i64 k1)).put (i := 2) rfl (.int .i64 k5)).put (i := 3) rfl (.int .i64 k3)).put (i := 4) rfl (.int .i64 k4))
    have hC' := ((((((hC6.set (p := ⟨w4.heap.size, 2, none⟩) (by simp; omega) (.int .i64 k5)).set (p := ⟨w.heap.size, 0, none⟩) (by simp; omega) (.string nm)).set (p := ⟨w.heap.size, 1, none⟩) (by simp; omega) (.int .i64 k1)).set (p := ⟨w.heap.size, 2, none⟩) (by simp; omega) (.int .i64 k5)).set (p := ⟨w.heap.size, 3, none⟩) (by simp; omega) (.int .i64 k3)).set (p := ⟨w.heap.size, 4, none⟩) (by simp; omega) (.int .i64 k4))
    have hF' := ((((((hF.setNew (p := ⟨w4.heap.size, 2, none⟩) (by simp; omega) (.int .i64 k5)).setNew (p := ⟨w.heap.size, 0, none⟩) (by simp) (.string nm)).setNew (p := ⟨w.heap.size, 1, none⟩) (by simp) (.int .i64 k1)).setNew (p := ⟨w.heap.size, 2, none⟩) (by simp) (.int .i64 k5)).setNew (p := ⟨w.heap.size, 3, none⟩) (by simp) (.int .i64 k3)).setNew (p := ⟨w.heap.size, 4, none⟩) (by simp) (.int .i64 k4))
    have r0 := (hR 0 _ rfl).1
    have g0 := (hR 0 _ rfl).2
    have x0 := (hR' 0 _ rfl).1
    have r1 := (hR 1 _ rfl).1
    have g1 := (hR 1 _ rfl).2
    have x1 := (hR' 1 _ rfl).1
    have r2 := (hR 2 _ rfl).1
    have g2 := (hR 2 _ rfl).2
    have x2 := (hR' 2 _ rfl).1
    have r3 := (hR 3 _ rfl).1
    have g3 := (hR 3 _ rfl).2
    have x3 := (hR' 3 _ rfl).1
    have r4 := (hR 4 _ rfl).1
    have g4 := (hR 4 _ rfl).2
    have x4 := (hR' 4 _ rfl).1
    go_wp2
    refine bodyPost_ret (by simp [results, Tryz.results147, go_sem, x0, x1, x2, x3, x4]; try rfl) rfl ?_
    exact ⟨⟨nm, k1, k5, k3, k4⟩, rfl, rfl, hC', hF'⟩
  have q1 : ((k : Int) == 1) = false := by simp; omega
  clear e1
  by_cases e2 : k = 2
  · have q2 : ((k : Int) == 2) = true := by simp [e2]
    clear e2
    go_wp2_with fail
    refine (among_lit pb A c l (N + 10) [0, 10, -9223372036854775808] 3 rfl _ _ _ _ (by simp) rfl hC5 (by omega) (by simp) (by simp)).mono ?_
    rintro e w6 ⟨k5, _, rfl, hC6, hFn⟩
    replace hR := hR.fr hFn (by simp) (by omega)
    replace hY := hY.fr hFn (by simp) (by omega)
    replace hF := hF.trans hFn
    clear hFn
    clear hC5
    have hl6 := hC6.lt
    have y0 := (hY 0 _ rfl).1
    have z0 := (hY 0 _ rfl).2
    have y1 := (hY 1 _ rfl).1
    have z1 := (hY 1 _ rfl).2
    have y2 := (hY 2 _ rfl).1
    have z2 := (hY 2 _ rfl).2
    have y3 := (hY 3 _ rfl).1
    have z3 := (hY 3 _ rfl).2
    have y4 := (hY 4 _ rfl).1
    have z4 := (hY 4 _ rfl).2
    have hR' := ((((((hR.off (p := ⟨w4.heap.size, 3, none⟩) (by simp; omega) (.int .i64 k5)).put (i := 0) rfl (.string nm)).put (i := 1) rfl (.int .i64 k1)).put (i := 2) rfl (.int .i64 k2)).put (i := 3) rfl (.int .i64 k5)).put (i := 4) rfl (.int .i64 k4))
    have hC' := ((((((hC6.set (p := ⟨w4.heap.size, 3, none⟩) (by simp; omega) (.int .i64 k5)).set (p := ⟨w.heap.size, 0, none⟩) (by simp; omega) (.string nm)).set (p := ⟨w.heap.size, 1, none⟩) (by simp; omega) (.int .i64 k1)).set (p := ⟨w.heap.size, 2, none⟩) (by simp; omega) (.int .i64 k2)).set (p := ⟨w.heap.size, 3, none⟩) (by simp; omega) (.int .i64 k5)).set (p := ⟨w.heap.size, 4, none⟩) (by simp; omega) (.int .i64 k4))
    have hF' := ((((((hF.setNew (p := ⟨w4.heap.size, 3, none⟩) (by simp; omega) (.int .i64 k5)).setNew (p := ⟨w.heap.size, 0, none⟩) (by simp) (.string nm)).setNew (p := ⟨w.heap.size, 1, none⟩) (by simp) (.int .i64 k1)).setNew (p := ⟨w.heap.size, 2, none⟩) (by simp) (.int .i64 k2)).setNew (p := ⟨w.heap.size, 3, none⟩) (by simp) (.int .i64 k5)).setNew (p := ⟨w.heap.size, 4, none⟩) (by simp) (.int .i64 k4))
    have r0 := (hR 0 _ rfl).1
    have g0 := (hR 0 _ rfl).2
    have x0 := (hR' 0 _ rfl).1
    have r1 := (hR 1 _ rfl).1
    have g1 := (hR 1 _ rfl).2
    have x1 := (hR' 1 _ rfl).1
    have r2 := (hR 2 _ rfl).1
    have g2 := (hR 2 _ rfl).2
    have x2 := (hR' 2 _ rfl).1
    have r3 := (hR 3 _ rfl).1
    have g3 := (hR 3 _ rfl).2
    have x3 := (hR' 3 _ rfl).1
    have r4 := (hR 4 _ rfl).1
    have g4 := (hR 4 _ rfl).2
    have x4 := (hR' 4 _ rfl).1
    go_wp2
    refine bodyPost_ret (by simp [results, Tryz.results147, go_sem, x0, x1, x2, x3, x4]; try rfl) rfl ?_
    exact ⟨⟨nm, k1, k2, k5, k4⟩, rfl, rfl, hC', hF'⟩
  have q2 : ((k : Int) == 2) = false := by simp; omega
  clear e2
  by_cases e3 : k = 3
  · have q3 : ((k : Int) == 3) = true := by simp [e3]
    clear e3
    go_wp2_with fail
    refine (among_lit pb A c l (N + 10) [-1, 6] 2 rfl _ _ _ _ (by simp) rfl hC5 (by omega) (by simp) (by simp)).mono ?_
    rintro e w6 ⟨k5, _, rfl, hC6, hFn⟩
    replace hR := hR.fr hFn (by simp) (by omega)
    replace hY := hY.fr hFn (by simp) (by omega)
    replace hF := hF.trans hFn
    clear hFn
    clear hC5
    have hl6 := hC6.lt
    have y0 := (hY 0 _ rfl).1
    have z0 := (hY 0 _ rfl).2
    have y1 := (hY 1 _ rfl).1
    have z1 := (hY 1 _ rfl).2
    have y2 := (hY 2 _ rfl).1
    have z2 := (hY 2 _ rfl).2
    have y3 := (hY 3 _ rfl).1
    have z3 := (hY 3 _ rfl).2
    have y4 := (hY 4 _ rfl).1
    have z4 := (hY 4 _ rfl).2
    have hR' := ((((((hR.off (p := ⟨w4.heap.size, 4, none⟩) (by simp; omega) (.int .i64 k5)).put (i := 0) rfl (.string nm)).put (i := 1) rfl (.int .i64 k1)).put (i := 2) rfl (.int .i64 k2)).put (i := 3) rfl (.int .i64 k3)).put (i := 4) rfl (.int .i64 k5))
    have hC' := ((((((hC6.set (p := ⟨w4.heap.size, 4, none⟩) (by simp; omega) (.int .i64 k5)).set (p := ⟨w.heap.size, 0, none⟩) (by simp; omega) (.string nm)).set (p := ⟨w.heap.size, 1, none⟩) (by simp; omega) (.int .i64 k1)).set (p := ⟨w.heap.size, 2, none⟩) (by simp; omega) (.int .i64 k2)).set (p := ⟨w.heap.size, 3, none⟩) (by simp; omega) (.int .i64 k3)).set (p := ⟨w.heap.size, 4, none⟩) (by simp; omega) (.int .i64 k5))
    have hF' := ((((((hF.setNew (p := ⟨w4.heap.size, 4, none⟩) (by simp; omega) (.int .i64 k5)).setNew (p := ⟨w.heap.size, 0, none⟩) (by simp) (.string nm)).setNew (p := ⟨w.heap.size, 1, none⟩) (by simp) (.int .i64 k1)).setNew (p := ⟨w.heap.size, 2, none⟩) (by simp) (.int .i64 k2)).setNew (p := ⟨w.heap.size, 3, none⟩) (by simp) (.int .i64 k3)).setNew (p := ⟨w.heap.size, 4, none⟩) (by simp) (.int .i64 k5))
    have r0 := (hR 0 _ rfl).1
    have g0 := (hR 0 _ rfl).2
    have x0 := (hR' 0 _ rfl).1
    have r1 := (hR 1 _ rfl).1
    have g1 := (hR 1 _ rfl).2
    have x1 := (hR' 1 _ rfl).1
    have r2 := (hR 2 _ rfl).1
    have g2 := (hR 2 _ rfl).2
    have x2 := (hR' 2 _ rfl).1
    have r3 := (hR 3 _ rfl).1
    have g3 := (hR 3 _ rfl).2
    have x3 := (hR' 3 _ rfl).1
    have r4 := (hR 4 _ rfl).1
    have g4 := (hR 4 _ rfl).2
    have x4 := (hR' 4 _ rfl).1
    go_wp2
    refine bodyPost_ret (by simp [results, Tryz.results147, go_sem, x0, x1, x2, x3, x4]; try rfl) rfl ?_
    exact ⟨⟨nm, k1, k2, k3, k5⟩, rfl, rfl, hC', hF'⟩
  have q3 : ((k : Int) == 3) = false := by simp; omega
  clear e3
  have y0 := (hY 0 _ rfl).1
  have y1 := (hY 1 _ rfl).1
  have y2 := (hY 2 _ rfl).1
  have y3 := (hY 3 _ rfl).1
  have y4 := (hY 4 _ rfl).1
  have hR' := (((((hR.put (i := 0) rfl (.string nm)).put (i := 1) rfl (.int .i64 k1)).put (i := 2) rfl (.int .i64 k2)).put (i := 3) rfl (.int .i64 k3)).put (i := 4) rfl (.int .i64 k4))
  have hC' := (((((hC5.set (p := ⟨w.heap.size, 0, none⟩) (by simp; omega) (.string nm)).set (p := ⟨w.heap.size, 1, none⟩) (by simp; omega) (.int .i64 k1)).set (p := ⟨w.heap.size, 2, none⟩) (by simp; omega) (.int .i64 k2)).set (p := ⟨w.heap.size, 3, none⟩) (by simp; omega) (.int .i64 k3)).set (p := ⟨w.heap.size, 4, none⟩) (by simp; omega) (.int .i64 k4))
  have hF' := (((((hF.setNew (p := ⟨w.heap.size, 0, none⟩) (by simp) (.string nm)).setNew (p := ⟨w.heap.size, 1, none⟩) (by simp) (.int .i64 k1)).setNew (p := ⟨w.heap.size, 2, none⟩) (by simp) (.int .i64 k2)).setNew (p := ⟨w.heap.size, 3, none⟩) (by simp) (.int .i64 k3)).setNew (p := ⟨w.heap.size, 4, none⟩) (by simp) (.int .i64 k4))
  have r0 := (hR 0 _ rfl).1
  have g0 := (hR 0 _ rfl).2
  have x0 := (hR' 0 _ rfl).1
  have r1 := (hR 1 _ rfl).1
  have g1 := (hR 1 _ rfl).2
  have x1 := (hR' 1 _ rfl).1
  have r2 := (hR 2 _ rfl).1
  have g2 := (hR 2 _ rfl).2
  have x2 := (hR' 2 _ rfl).1
  have r3 := (hR 3 _ rfl).1
  have g3 := (hR 3 _ rfl).2
  have x3 := (hR' 3 _ rfl).1
  have r4 := (hR 4 _ rfl).1
  have g4 := (hR 4 _ rfl).2
  have x4 := (hR' 4 _ rfl).1
  go_wp2
  refine bodyPost_ret (by simp [results, Tryz.results147, go_sem, x0, x1, x2, x3, x4]; try rfl) rfl ?_
  exact ⟨⟨nm, k1, k2, k3, k4⟩, rfl, rfl, hC'.more (by omega), hF'⟩
end Go.Proofs.YtjmjilkpckbpeaaGreatDoor

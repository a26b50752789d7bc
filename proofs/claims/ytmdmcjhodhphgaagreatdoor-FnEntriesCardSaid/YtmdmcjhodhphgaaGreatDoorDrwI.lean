/- Drawing entries, spoilt texts, and the Draw functions over logs: what they return, and that only the cursor changes. Conditions: a valid cursor, fewer than 2^39 steps. -/
import Derived.Test.YtmdmcjhodhphgaaGreatDoorDrwH
import Derived.Test.YtmdmcjhodhphgaaGreatDoorLine
namespace Go.Proofs.YtmdmcjhodhphgaaGreatDoor
open Go.RowKit

theorem backC (W : World) (g : Nat) (c : UInt8) (hc : W.cell? ⟨g, 0, none⟩ = some (.int .u8 (c.toNat : Int))) : (convert 22 9 (.slice (some ⟨g, 0, none⟩) 1 1)).run Tryz.prog W = .ok (.string ⟨#[c]⟩) W :=
  run_convert_bytes_back (P := Tryz.prog) W 22 9 5 ⟨g, 0, none⟩ 1 [c] Tryz.underlying22 Tryz.underlying5 Tryz.underlying9 (fun j hj => by
    cases j with
    | zero => exact hc
    | succ j => simp at hj)
set_option maxHeartbeats 4000000 in
theorem entry_any (pb : Nat) (A : Option Addr) (c : Nat) (l : List Int) (N : Nat) (w : World) (hC : Cur pb A c l N w) (hN : N ≤ 700000000000) :
    Calls Tryz.prog 91 #[.pointer (some ⟨pb, 0, none⟩)] w fun e w' => ∃ x : Ent, x.t.size ≤ 41 ∧ e = .returned (.agg #[.int .i64 x.r, .int .i64 x.n, .int .i64 x.m, .string x.t]) ∧ Cur pb A c l (N + 20) w' ∧ Fr pb (pb + 1) w w' := by
  have hpb := hC.lt
  have hR := BN.new w #[.int .i64 0, .int .i64 0, .int .i64 0, .string ⟨#[]⟩] 33 _ rfl
  have hF := (Fr.refl pb (pb + 1) w).alloc (.cells #[.int .i64 0, .int .i64 0, .int .i64 0, .string ⟨#[]⟩] 33)
  have hC0 := hC.alloc (.cells #[.int .i64 0, .int .i64 0, .int .i64 0, .string ⟨#[]⟩] 33)
  go_enter Tryz.func91, Tryz.ntmps91
  go_wp2_with fail
  refine (among_lit pb A c l (N) [2, 0, 3] 3 rfl _ _ _ _ (by simp) rfl hC0 (by omega) (by simp) (by simp)).mono ?_
  rintro e w1 ⟨k1, _, rfl, hC1, hFn⟩
  replace hR := hR.fr hFn (by simp) (by omega)
  replace hF := hF.trans hFn
  clear hFn
  clear hC0
  have hl1 := hC1.lt
  go_wp2_with fail
  refine (among_lit pb A c l (N + 2) [1, 2, 1, 2, 1, k1] 6 rfl _ _ _ _ (by simp) rfl hC1 (by omega) (by simp) (by simp)).mono ?_
  rintro e w2 ⟨k2, _, rfl, hC2, hFn⟩
  replace hR := hR.fr hFn (by simp) (by omega)
  replace hF := hF.trans hFn
  clear hFn
  clear hC1
  have hl2 := hC2.lt
  go_wp2_with fail
  refine (among_lit pb A c l (N + 4) [3, 0, 1000] 3 rfl _ _ _ _ (by simp) rfl hC2 (by omega) (by simp) (by simp)).mono ?_
  rintro e w3 ⟨k3, _, rfl, hC3, hFn⟩
  replace hR := hR.fr hFn (by simp) (by omega)
  replace hF := hF.trans hFn
  clear hFn
  clear hC2
  have hl3 := hC3.lt
  go_wp2_with fail
  refine (among_lit pb A c l (N + 6) [1, 2, 12, 999, 1, k3] 6 rfl _ _ _ _ (by simp) rfl hC3 (by omega) (by simp) (by simp)).mono ?_
  rintro e w4 ⟨k4, _, rfl, hC4, hFn⟩
  replace hR := hR.fr hFn (by simp) (by omega)
  replace hF := hF.trans hFn
  clear hFn
  clear hC3
  have hl4 := hC4.lt
  go_wp2_with fail
  refine (logMinute_any pb A c l (N + 8) _ hC4 (by omega)).mono ?_
  rintro e w5 ⟨m, rfl, hC5, hFn⟩
  replace hR := hR.fr hFn (by simp) (by omega)
  replace hF := hF.trans hFn
  clear hFn
  clear hC4
  have hl5 := hC5.lt
  go_wp2_with fail
  refine (entryWords_any pb A c l (N + 12) _ hC5 (by omega)).mono ?_
  rintro e w6 ⟨s, hs, rfl, hC6, hFn⟩
  replace hR := hR.fr hFn (by simp) (by omega)
  replace hF := hF.trans hFn
  clear hFn
  clear hC5
  have hl6 := hC6.lt
  have hR' := ((((hR.put (i := 0) rfl (.int .i64 k2)).put (i := 1) rfl (.int .i64 k4)).put (i := 2) rfl (.int .i64 m)).put (i := 3) rfl (.string s))
  have hC' := ((((hC6.set (p := ⟨w.heap.size, 0, none⟩) (by simp; omega) (.int .i64 k2)).set (p := ⟨w.heap.size, 1, none⟩) (by simp; omega) (.int .i64 k4)).set (p := ⟨w.heap.size, 2, none⟩) (by simp; omega) (.int .i64 m)).set (p := ⟨w.heap.size, 3, none⟩) (by simp; omega) (.string s))
  have hF' := ((((hF.setNew (p := ⟨w.heap.size, 0, none⟩) (by simp) (.int .i64 k2)).setNew (p := ⟨w.heap.size, 1, none⟩) (by simp) (.int .i64 k4)).setNew (p := ⟨w.heap.size, 2, none⟩) (by simp) (.int .i64 m)).setNew (p := ⟨w.heap.size, 3, none⟩) (by simp) (.string s))
  have r0 := (hR 0 _ rfl).1
  have g0 := (hR 0 _ rfl).2
  have x0 := (hR' 0 _ rfl).1
  have r1 := (hR 1 _ rfl).1
  have g1 := (hR 1 _ rfl).2
  have x1 := (hR' 1 _ rfl).1
  have r2 := (hR 2 _ rfl).1
  have g2 := (hR 2 _ rfl).2
  have x2 := (hR' 2 _ rfl).1
  have r3 := (hR 3 _ rfl).1
  have g3 := (hR 3 _ rfl).2
  have x3 := (hR' 3 _ rfl).1
  go_wp2
  refine bodyPost_ret (by simp [results, Tryz.results91, go_sem, x0, x1, x2, x3]; try rfl) rfl ?_
  exact ⟨⟨k2, k4, m, s⟩, hs, rfl, hC', hF'⟩
theorem Cur.drewN' {pb N c : Nat} {A : Option Addr} {l : List Int} {w : World} (h : Cur pb A c l N w) (n : Nat) : Cur pb A c l N (w.drewN n) := h.below ⟨rfl, rfl, rfl, Nat.le_refl _, fun _ _ => rfl⟩
theorem Fr.drewN' {lo hi : Nat} {w W : World} (h : Fr lo hi w W) (n : Nat) : Fr lo hi w (W.drewN n) := ⟨h.os, h.tape, h.output, h.size, h.block⟩
set_option maxRecDepth 10000 in
set_option maxHeartbeats 8000000 in
theorem spoilt_any (pb : Nat) (A : Option Addr) (c : Nat) (l : List Int) (N : Nat) (t q : ByteArray) (w : World) (hC : Cur pb A c l N w) (hN : N ≤ 700000000000) (ht : t.size ≤ 1000000) (hq0 : 0 < q.size) (hq1 : q.size ≤ 1000) :
    Calls Tryz.prog 71 #[.pointer (some ⟨pb, 0, none⟩), .string t, .string q] w (CS pb A c l (N + 20) (t.size + 2) w) := by
  have hpb := hC.lt
  go_enter Tryz.func71, Tryz.ntmps71
  go_wp2_with fail
  refine (pick_any pb A c l N 2 _ hC (by omega) (by omega)).mono ?_
  rintro e w1 ⟨_, rfl, ⟨k1, rfl, hk1⟩, hC1, hF1⟩
  have hz1 := hF1.size
  have hk1' : k1 ≤ 1 := by omega
  clear hC hk1
  go_wp2_with fail
  go_loopw [1, 7] (fun s n wr => ∃ (u : ByteArray) (k : Nat), s = .string u ∧ n = .int .i64 k ∧ k ≤ 2 ∧ u.size + k ≤ t.size + 2 ∧ Cur pb A c l (N + 2 + 6 * (2 - k)) wr ∧ Fr pb (pb + 1) w wr ∧ w.heap.size ≤ wr.heap.size) (fun _ n _ => (intOf n).toNat)
  case atStart => exact ⟨t, 1 + k1, rfl, by first | go_num | (congr 1; omega), by omega, by omega, hC1.more (by omega), hF1, by omega⟩
  case round =>
    clear hC1 hF1 hz1 hk1'
    obtain ⟨u, k, rfl, rfl, hk, hu, hC, hF, hz⟩ := hrel
    by_cases hk0 : 0 < k
    rotate_left
    · have hk0' : ¬ (0 : Int) < k := by omega
      go_wp2
      go_ret
      exact ⟨u, by omega, rfl, hC.more (by omega), hF⟩
    have hk0' : (0 : Int) < k := by omega
    by_cases hu0 : 0 < u.size
    rotate_left
    · have hu0' : ¬ (0 : Int) < u.size := by omega
      go_wp2
      go_ret
      exact ⟨u, by omega, rfl, hC.more (by omega), hF⟩
    have hu0' : (0 : Int) < u.size := by omega
    go_wp2_with fail
    refine (pick_any pb A c l (N + 2 + 6 * (2 - k)) _ _ hC (by omega) (by omega)).mono ?_
    rintro e w2 ⟨_, rfl, ⟨i, rfl, hi⟩, hC2, hFn⟩
    have hF2 := hF.trans hFn
    have hz2 := hFn.size
    have hiu : i < u.size := by omega
    have hiu' : (i : Int) < u.size := by omega
    have hi0 : (0 : Int) ≤ i := by omega
    clear hFn hC hF hi
    go_wp2_with fail
    refine (pick_any pb A c l (N + 2 + 6 * (2 - k) + 2) _ _ hC2 (by omega) (by omega)).mono ?_
    rintro e w3 ⟨_, rfl, ⟨j, rfl, hj⟩, hC3, hFn⟩
    have hF3 := hF2.trans hFn
    have hz3 := hFn.size
    have hjq : j < q.size := by omega
    have hjq' : (j : Int) < q.size := by omega
    clear hFn hC2 hF2 hj
    have hr := backC (w3.alloc (.cells #[.int .u8 (q[j].toNat : Int)] 5)) w3.heap.size q[j] (by rw [World.cell?_alloc_at _ _ _ _ rfl]; rfl)
    go_wp2_with fail
    refine (pick_any pb A c l (N + 2 + 6 * (2 - k) + 4) 3 _ (hC3.alloc _) (by omega) (by omega)).mono ?_
    rintro e w4 ⟨_, rfl, ⟨m, rfl, _⟩, hC4, hFn⟩
    have hF4 := (hF3.alloc _).trans hFn
    have hz4 : w.heap.size ≤ w4.heap.size := hF4.size
    replace hC4 : Cur pb A c l (N + 2 + 6 * (2 - (k - 1))) w4 := hC4.more (by omega)
    clear hFn hC3 hF3 hr
    have hs1 : (⟨#[q[j]]⟩ : ByteArray).size = 1 := rfl
    have hw1 : IntKind.i64.wrap ((i : Int) + 1) = (i : Int) + 1 := IntWalk.i64_in _ (by omega)
    have hw2 : ((i : Int) + 1).toNat = i + 1 := by omega
    have hi1 : (i : Int) + 1 ≤ u.size := by omega
    have x1 : (u.extract 0 i).size = i := by rw [ByteArray.size_extract]; omega
    generalize hbs : (⟨#[q[j]]⟩ : ByteArray) = bs at hs1 ⊢
    clear hbs
    have y1 : ¬ 9223372036854775807 < (u.extract 0 i).size + bs.size := by omega
    by_cases e0 : m = 0
    · have q0 : ((m : Int) == 0) = true := by simp [e0]
      have y2 : ¬ 9223372036854775807 < (u.extract 0 i ++ bs).size + (u.extract i u.size).size := by rw [ByteArray.size_append, ByteArray.size_extract, ByteArray.size_extract]; omega
      clear e0 x1 hw1 hw2 hi1
      go_wp2_with fail
      go_quiet (fail)
      go_wp2
      go_roundw
      case rel => exact ⟨_, k - 1, rfl, by first | go_num | (congr 1; omega), by omega, by simp only [ByteArray.size_append, ByteArray.size_extract, hs1]; omega, hC4.drewN' _, hF4.drewN' _, hz4⟩
      case measure => simp [intOf]; omega
    have q0 : ((m : Int) == 0) = false := by simp; omega
    by_cases e1 : m = 1
    · have q1 : ((m : Int) == 1) = true := by simp [e1]
      have y2 : ¬ 9223372036854775807 < (u.extract 0 i ++ bs).size + (u.extract (i + 1) u.size).size := by rw [ByteArray.size_append, ByteArray.size_extract, ByteArray.size_extract]; omega
      clear e0 e1 x1
      go_wp2_with fail
      go_quiet (fail)
      clear hw1 hw2
      go_wp2
      go_roundw
      case rel => exact ⟨_, k - 1, rfl, by first | go_num | (congr 1; omega), by omega, by simp only [ByteArray.size_append, ByteArray.size_extract, hs1]; omega, hC4.drewN' _, hF4.drewN' _, hz4⟩
      case measure => simp [intOf]; omega
    have q1 : ((m : Int) == 1) = false := by simp; omega
    have y2 : ¬ 9223372036854775807 < (u.extract 0 i).size + (u.extract (i + 1) u.size).size := by rw [ByteArray.size_extract, ByteArray.size_extract]; omega
    clear e0 e1 x1 y1
    go_wp2_with fail
    go_quiet (fail)
    clear hw1 hw2
    go_wp2
    go_roundw
    case rel => exact ⟨_, k - 1, rfl, by first | go_num | (congr 1; omega), by omega, by simp only [ByteArray.size_append, ByteArray.size_extract]; omega, hC4.drewN' _, hF4.drewN' _, hz4⟩
    case measure => simp [intOf]; omega
set_option maxRecDepth 10000 in
set_option maxHeartbeats 4000000 in
theorem DrawAppendEntry_any (A : Option Addr) (c : Nat) (l : List Int) (w : World) (hl : l.length ≤ maxLen) (hm : ∀ x ∈ l, 0 ≤ x ∧ x ≤ 255) (hS : Sl byE 1 w 0 w.heap.size A l) :
    Calls Tryz.prog 6 #[.slice A l.length c] w fun e w' => ∃ (B1 : Option Addr) (d1 : Nat) (L1 : List Ent) (r m : Int) (s : ByteArray), e = .returned (.tuple #[.slice B1 L1.length d1, .int .i64 r, .int .i64 m, .string s]) ∧ s.size ≤ 41 ∧ EL w.heap.size w' B1 d1 L1 ∧ Below w.heap.size w w' := by
  have hC0 := Cur.new w A c l 65 w.heap.size rfl hS hm hl
  have hz : w.heap.size + 1 ≤ (w.alloc (.cells #[.slice A l.length c, .int .i64 0, .int .u64 0] 65)).heap.size := by simp
  have hB : Below w.heap.size w (w.alloc (.cells #[.slice A l.length c, .int .i64 0, .int .u64 0] 65)) := by go_grown
  clear hS hl hm
  go_enter Tryz.func6, Tryz.ntmps6
  go_wp2_with fail
  refine (anyLog_any w.heap.size A c l 0 _ hC0 (by omega)).mono ?_
  rintro e w1 ⟨B1, d1, L1, rfl, hl1, hm1, hO1, hC1, hFn⟩
  have hE1 : EL (w.heap.size + 1) w1 B1 d1 L1 := EL.of (by omega) hm1 hO1 hz
  clear hO1
  replace hB := hB.trans (hFn.below (B := w.heap.size) (Nat.le_refl _) hB.size)
  replace hz := Nat.le_trans hz hFn.size
  clear hFn hC0
  go_wp2_with fail
  refine (among_lit w.heap.size A c l (0 + 400) [1, 2, 0, 3] 4 rfl _ _ _ _ (by simp) rfl hC1 (by omega) (by simp) (by simp)).mono ?_
  rintro e w2 ⟨v1, _, rfl, hC2, hFn⟩
  replace hE1 := hE1.cur hFn
  replace hB := hB.trans (hFn.below (B := w.heap.size) (Nat.le_refl _) hB.size)
  replace hz := Nat.le_trans hz hFn.size
  clear hFn hC1
  by_cases h0 : 0 < L1.length
  · skip
    have h0' : (0 : Int) < L1.length := by omega
    go_wp2_with fail
    refine (one_any w.heap.size A c l (0 + 402) 4 _ hC2 (by omega) (by omega)).mono ?_
    rintro e w3 ⟨_, rfl, ⟨b, rfl⟩, hC3, hFn⟩
    replace hE1 := hE1.cur hFn
    replace hB := hB.trans (hFn.below (B := w.heap.size) (Nat.le_refl _) hB.size)
    replace hz := Nat.le_trans hz hFn.size
    clear hFn hC2
    cases b with
    | true =>
      go_wp2_with fail
      refine (logMinute_any w.heap.size A c l (0 + 404) _ hC3 (by omega)).mono ?_
      rintro e w4 ⟨m, rfl, hC4, hFn⟩
      replace hE1 := hE1.cur hFn
      replace hB := hB.trans (hFn.below (B := w.heap.size) (Nat.le_refl _) hB.size)
      replace hz := Nat.le_trans hz hFn.size
      clear hFn hC3
      go_wp2_with fail
      refine (entryWords_any w.heap.size A c l (0 + 408) _ hC4 (by omega)).mono ?_
      rintro e w5 ⟨s, hs, rfl, hC5, hFn⟩
      replace hE1 := hE1.cur hFn
      replace hB := hB.trans (hFn.below (B := w.heap.size) (Nat.le_refl _) hB.size)
      replace hz := Nat.le_trans hz hFn.size
      clear hFn hC4
      go_wp2
      refine bodyPost_ret (by simp [results, Tryz.results6, go_sem]; try rfl) rfl ?_
      exact ⟨_, d1, L1, v1, m, s, rfl, hs, hE1.lift (Nat.le_succ _), hB⟩
    | false =>
      obtain ⟨x, hx, _⟩ := get_lt h0
      obtain ⟨yb, yo, rfl, _, _, _, hf⟩ := hE1.2.2.at_ hx
      have c0 : w3.cell? ⟨yb, yo, none⟩ = some (.int .i64 x.r) := by have := (hf 0 _ rfl).1; simpa using this
      clear hf hx
      go_wp2_with fail
      refine (logMinute_any w.heap.size A c l (0 + 404) _ hC3 (by omega)).mono ?_
      rintro e w4 ⟨m, rfl, hC4, hFn⟩
      replace hE1 := hE1.cur hFn
      replace hB := hB.trans (hFn.below (B := w.heap.size) (Nat.le_refl _) hB.size)
      replace hz := Nat.le_trans hz hFn.size
      clear hFn hC3
      go_wp2_with fail
      refine (entryWords_any w.heap.size A c l (0 + 408) _ hC4 (by omega)).mono ?_
      rintro e w5 ⟨s, hs, rfl, hC5, hFn⟩
      replace hE1 := hE1.cur hFn
      replace hB := hB.trans (hFn.below (B := w.heap.size) (Nat.le_refl _) hB.size)
      replace hz := Nat.le_trans hz hFn.size
      clear hFn hC4
      go_wp2
      refine bodyPost_ret (by simp [results, Tryz.results6, go_sem]; try rfl) rfl ?_
      exact ⟨_, d1, L1, x.r, m, s, rfl, hs, hE1.lift (Nat.le_succ _), hB⟩
  · have h0' : ¬ (0 : Int) < L1.length := by omega
    go_wp2_with fail
    refine (logMinute_any w.heap.size A c l (0 + 402) _ hC2 (by omega)).mono ?_
    rintro e w3 ⟨m, rfl, hC3, hFn⟩
    replace hE1 := hE1.cur hFn
    replace hB := hB.trans (hFn.below (B := w.heap.size) (Nat.le_refl _) hB.size)
    replace hz := Nat.le_trans hz hFn.size
    clear hFn hC2
    go_wp2_with fail
    refine (entryWords_any w.heap.size A c l (0 + 406) _ hC3 (by omega)).mono ?_
    rintro e w4 ⟨s, hs, rfl, hC4, hFn⟩
    replace hE1 := hE1.cur hFn
    replace hB := hB.trans (hFn.below (B := w.heap.size) (Nat.le_refl _) hB.size)
    replace hz := Nat.le_trans hz hFn.size
    clear hFn hC3
    go_wp2
    refine bodyPost_ret (by simp [results, Tryz.results6, go_sem]; try rfl) rfl ?_
    exact ⟨_, d1, L1, v1, m, s, rfl, hs, hE1.lift (Nat.le_succ _), hB⟩
set_option maxRecDepth 10000 in
set_option maxHeartbeats 4000000 in
theorem DrawCancelEntry_any (A : Option Addr) (c : Nat) (l : List Int) (w : World) (hl : l.length ≤ maxLen) (hm : ∀ x ∈ l, 0 ≤ x ∧ x ≤ 255) (hS : Sl byE 1 w 0 w.heap.size A l) :
    Calls Tryz.prog 12 #[.slice A l.length c] w fun e w' => ∃ (B1 : Option Addr) (d1 : Nat) (L1 : List Ent) (m n : Int), e = .returned (.tuple #[.slice B1 L1.length d1, .int .i64 m, .int .i64 n]) ∧ EL w.heap.size w' B1 d1 L1 ∧ Below w.heap.size w w' := by
  have hC0 := Cur.new w A c l 65 w.heap.size rfl hS hm hl
  have hz : w.heap.size + 1 ≤ (w.alloc (.cells #[.slice A l.length c, .int .i64 0, .int .u64 0] 65)).heap.size := by simp
  have hB : Below w.heap.size w (w.alloc (.cells #[.slice A l.length c, .int .i64 0, .int .u64 0] 65)) := by go_grown
  clear hS hl hm
  go_enter Tryz.func12, Tryz.ntmps12
  go_wp2_with fail
  refine (anyLog_any w.heap.size A c l 0 _ hC0 (by omega)).mono ?_
  rintro e w1 ⟨B1, d1, L1, rfl, hl1, hm1, hO1, hC1, hFn⟩
  have hE1 : EL (w.heap.size + 1) w1 B1 d1 L1 := EL.of (by omega) hm1 hO1 hz
  clear hO1
  replace hB := hB.trans (hFn.below (B := w.heap.size) (Nat.le_refl _) hB.size)
  replace hz := Nat.le_trans hz hFn.size
  clear hFn hC0
  go_wp2_with fail
  refine (logMinute_any w.heap.size A c l (0 + 400) _ hC1 (by omega)).mono ?_
  rintro e w2 ⟨m, rfl, hC2, hFn⟩
  replace hE1 := hE1.cur hFn
  replace hB := hB.trans (hFn.below (B := w.heap.size) (Nat.le_refl _) hB.size)
  replace hz := Nat.le_trans hz hFn.size
  clear hFn hC1
  go_wp2_with fail
  refine (pick_any w.heap.size A c l (0 + 404) _ _ hC2 (by omega) (by omega)).mono ?_
  rintro e w3 ⟨_, rfl, ⟨k2, rfl, hk2⟩, hC3, hFn⟩
  replace hE1 := hE1.cur hFn
  replace hB := hB.trans (hFn.below (B := w.heap.size) (Nat.le_refl _) hB.size)
  replace hz := Nat.le_trans hz hFn.size
  clear hFn hC2
  have hk2' : k2 ≤ 21 := by omega
  clear hk2
  go_wp2_with fail
  refine (pick_any w.heap.size A c l (0 + 406) _ _ hC3 (by omega) (by omega)).mono ?_
  rintro e w4 ⟨_, rfl, ⟨k3, rfl, hk3⟩, hC4, hFn⟩
  replace hE1 := hE1.cur hFn
  replace hB := hB.trans (hFn.below (B := w.heap.size) (Nat.le_refl _) hB.size)
  replace hz := Nat.le_trans hz hFn.size
  clear hFn hC3
  have hk3' : k3 ≤ 21 := by omega
  clear hk3
  go_wp2_with fail
  refine (among_lit w.heap.size A c l (0 + 408) [1, 1 + (k2 : Int), 1 + (k3 : Int), (L1.length : Int), (L1.length : Int) + 1, 0] 6 rfl _ _ _ _ (by simp) rfl hC4 (by omega) (by simp) (by simp)).mono ?_
  rintro e w5 ⟨n, _, rfl, hC5, hFn⟩
  replace hE1 := hE1.cur hFn
  replace hB := hB.trans (hFn.below (B := w.heap.size) (Nat.le_refl _) hB.size)
  replace hz := Nat.le_trans hz hFn.size
  clear hFn hC4
  go_wp2
  go_ret3
  exact ⟨B1, d1, L1, m, n, rfl, hE1.lift (Nat.le_succ _), hB⟩
set_option maxRecDepth 10000 in
set_option maxHeartbeats 4000000 in
theorem DrawIsLog_any (A : Option Addr) (c : Nat) (l : List Int) (w : World) (hl : l.length ≤ maxLen) (hm : ∀ x ∈ l, 0 ≤ x ∧ x ≤ 255) (hS : Sl byE 1 w 0 w.heap.size A l) :
    Calls Tryz.prog 66 #[.slice A l.length c] w fun e w' => ∃ (B1 : Option Addr) (d1 : Nat) (L1 : List Ent), e = .returned (.slice B1 L1.length d1) ∧ EL w.heap.size w' B1 d1 L1 ∧ Below w.heap.size w w' := by
  have hC0 := Cur.new w A c l 65 w.heap.size rfl hS hm hl
  have hz : w.heap.size + 1 ≤ (w.alloc (.cells #[.slice A l.length c, .int .i64 0, .int .u64 0] 65)).heap.size := by simp
  have hB : Below w.heap.size w (w.alloc (.cells #[.slice A l.length c, .int .i64 0, .int .u64 0] 65)) := by go_grown
  clear hS hl hm
  go_enter Tryz.func66, Tryz.ntmps66
  go_wp2_with fail
  refine (anyLog_any w.heap.size A c l 0 _ hC0 (by omega)).mono ?_
  rintro e w1 ⟨B1, d1, L1, rfl, hl1, hm1, hO1, hC1, hFn⟩
  have hE1 : EL (w.heap.size + 1) w1 B1 d1 L1 := EL.of (by omega) hm1 hO1 hz
  clear hO1
  replace hB := hB.trans (hFn.below (B := w.heap.size) (Nat.le_refl _) hB.size)
  replace hz := Nat.le_trans hz hFn.size
  clear hFn hC0
  go_wp2
  go_ret
  exact ⟨B1, d1, L1, rfl, hE1.lift (Nat.le_succ _), hB⟩
theorem DrawLogText_any (A : Option Addr) (c : Nat) (l : List Int) (w : World) (hl : l.length ≤ maxLen) (hm : ∀ x ∈ l, 0 ≤ x ∧ x ≤ 255) (hS : Sl byE 1 w 0 w.heap.size A l) :
    Calls Tryz.prog 19 #[.slice A l.length c] w fun e w' => ∃ (B1 : Option Addr) (d1 : Nat) (L1 : List Ent), e = .returned (.slice B1 L1.length d1) ∧ EL w.heap.size w' B1 d1 L1 ∧ Below w.heap.size w w' := by
  go_enter Tryz.func19, Tryz.ntmps19
  go_wp2_with fail
  refine (DrawIsLog_any A c l _ hl hm hS).mono ?_
  rintro e w1 ⟨B1, d1, L1, rfl, hE, hb⟩
  go_wp2
  go_ret
  exact ⟨B1, d1, L1, rfl, hE, hb⟩
theorem DrawSilentTime_any (A : Option Addr) (c : Nat) (l : List Int) (w : World) (hl : l.length ≤ maxLen) (hm : ∀ x ∈ l, 0 ≤ x ∧ x ≤ 255) (hS : Sl byE 1 w 0 w.heap.size A l) :
    Calls Tryz.prog 33 #[.slice A l.length c] w fun e w' => ∃ (B1 : Option Addr) (d1 : Nat) (L1 : List Ent), e = .returned (.slice B1 L1.length d1) ∧ EL w.heap.size w' B1 d1 L1 ∧ Below w.heap.size w w' := by
  go_enter Tryz.func33, Tryz.ntmps33
  go_wp2_with fail
  refine (DrawIsLog_any A c l _ hl hm hS).mono ?_
  rintro e w1 ⟨B1, d1, L1, rfl, hE, hb⟩
  go_wp2
  go_ret
  exact ⟨B1, d1, L1, rfl, hE, hb⟩
set_option maxRecDepth 10000 in
set_option maxHeartbeats 4000000 in
theorem DrawEntriesBetween_any (A : Option Addr) (c : Nat) (l : List Int) (w : World) (hl : l.length ≤ maxLen) (hm : ∀ x ∈ l, 0 ≤ x ∧ x ≤ 255) (hS : Sl byE 1 w 0 w.heap.size A l) :
    Calls Tryz.prog 27 #[.slice A l.length c] w fun e w' => ∃ (B1 : Option Addr) (d1 : Nat) (L1 : List Ent) (f u : Int), e = .returned (.tuple #[.slice B1 L1.length d1, .int .i64 f, .int .i64 u]) ∧ EL w.heap.size w' B1 d1 L1 ∧ Below w.heap.size w w' := by
  have hC0 := Cur.new w A c l 65 w.heap.size rfl hS hm hl
  have hz : w.heap.size + 1 ≤ (w.alloc (.cells #[.slice A l.length c, .int .i64 0, .int .u64 0] 65)).heap.size := by simp
  have hB : Below w.heap.size w (w.alloc (.cells #[.slice A l.length c, .int .i64 0, .int .u64 0] 65)) := by go_grown
  clear hS hl hm
  go_enter Tryz.func27, Tryz.ntmps27
  go_wp2_with fail
  refine (anyLog_any w.heap.size A c l 0 _ hC0 (by omega)).mono ?_
  rintro e w1 ⟨B1, d1, L1, rfl, hl1, hm1, hO1, hC1, hFn⟩
  have hE1 : EL (w.heap.size + 1) w1 B1 d1 L1 := EL.of (by omega) hm1 hO1 hz
  clear hO1
  replace hB := hB.trans (hFn.below (B := w.heap.size) (Nat.le_refl _) hB.size)
  replace hz := Nat.le_trans hz hFn.size
  clear hFn hC0
  go_wp2_with fail
  refine (logMinute_any w.heap.size A c l (0 + 400) _ hC1 (by omega)).mono ?_
  rintro e w2 ⟨f, rfl, hC2, hFn⟩
  replace hE1 := hE1.cur hFn
  replace hB := hB.trans (hFn.below (B := w.heap.size) (Nat.le_refl _) hB.size)
  replace hz := Nat.le_trans hz hFn.size
  clear hFn hC1
  go_wp2_with fail
  refine (logMinute_any w.heap.size A c l (0 + 404) _ hC2 (by omega)).mono ?_
  rintro e w3 ⟨u, rfl, hC3, hFn⟩
  replace hE1 := hE1.cur hFn
  replace hB := hB.trans (hFn.below (B := w.heap.size) (Nat.le_refl _) hB.size)
  replace hz := Nat.le_trans hz hFn.size
  clear hFn hC2
  go_wp2
  go_ret3
  exact ⟨B1, d1, L1, f, u, rfl, hE1.lift (Nat.le_succ _), hB⟩
set_option maxRecDepth 10000 in
set_option maxHeartbeats 4000000 in
theorem DrawCutLog_any (A : Option Addr) (c : Nat) (l : List Int) (w : World) (hl : l.length ≤ maxLen) (hm : ∀ x ∈ l, 0 ≤ x ∧ x ≤ 255) (hS : Sl byE 1 w 0 w.heap.size A l) :
    Calls Tryz.prog 42 #[.slice A l.length c] w fun e w' => ∃ (B1 : Option Addr) (d1 : Nat) (L1 : List Ent) (n : Int), e = .returned (.tuple #[.slice B1 L1.length d1, .int .i64 n]) ∧ EL w.heap.size w' B1 d1 L1 ∧ Below w.heap.size w w' := by
  have hC0 := Cur.new w A c l 65 w.heap.size rfl hS hm hl
  have hz : w.heap.size + 1 ≤ (w.alloc (.cells #[.slice A l.length c, .int .i64 0, .int .u64 0] 65)).heap.size := by simp
  have hB : Below w.heap.size w (w.alloc (.cells #[.slice A l.length c, .int .i64 0, .int .u64 0] 65)) := by go_grown
  clear hS hl hm
  go_enter Tryz.func42, Tryz.ntmps42
  go_wp2_with fail
  refine (anyLog_any w.heap.size A c l 0 _ hC0 (by omega)).mono ?_
  rintro e w1 ⟨B1, d1, L1, rfl, hl1, hm1, hO1, hC1, hFn⟩
  have hE1 : EL (w.heap.size + 1) w1 B1 d1 L1 := EL.of (by omega) hm1 hO1 hz
  clear hO1
  replace hB := hB.trans (hFn.below (B := w.heap.size) (Nat.le_refl _) hB.size)
  replace hz := Nat.le_trans hz hFn.size
  clear hFn hC0
  go_wp2_with fail
  refine (pick_any w.heap.size A c l (0 + 400) _ _ hC1 (by omega) (by omega)).mono ?_
  rintro e w2 ⟨_, rfl, ⟨k2, rfl, hk2⟩, hC2, hFn⟩
  replace hE1 := hE1.cur hFn
  replace hB := hB.trans (hFn.below (B := w.heap.size) (Nat.le_refl _) hB.size)
  replace hz := Nat.le_trans hz hFn.size
  clear hFn hC1
  have hk2' : k2 ≤ 21 := by omega
  clear hk2
  go_wp2_with fail
  refine (among_lit w.heap.size A c l (0 + 402) [0, (k2 : Int), (L1.length : Int), (L1.length : Int) + 1, -1] 5 rfl _ _ _ _ (by simp) rfl hC2 (by omega) (by simp) (by simp)).mono ?_
  rintro e w3 ⟨n, _, rfl, hC3, hFn⟩
  replace hE1 := hE1.cur hFn
  replace hB := hB.trans (hFn.below (B := w.heap.size) (Nat.le_refl _) hB.size)
  replace hz := Nat.le_trans hz hFn.size
  clear hFn hC2
  go_wp2
  go_ret2
  exact ⟨B1, d1, L1, n, rfl, hE1.lift (Nat.le_succ _), hB⟩
set_option maxRecDepth 10000 in
set_option maxHeartbeats 4000000 in
theorem DrawEntriesWith_any (A : Option Addr) (c : Nat) (l : List Int) (w : World) (hl : l.length ≤ maxLen) (hm : ∀ x ∈ l, 0 ≤ x ∧ x ≤ 255) (hS : Sl byE 1 w 0 w.heap.size A l) :
    Calls Tryz.prog 30 #[.slice A l.length c] w fun e w' => ∃ (B1 : Option Addr) (d1 : Nat) (L1 : List Ent) (s : ByteArray), e = .returned (.tuple #[.slice B1 L1.length d1, .string s]) ∧ s.size ≤ 41 ∧ EL w.heap.size w' B1 d1 L1 ∧ Below w.heap.size w w' := by
  have hC0 := Cur.new w A c l 65 w.heap.size rfl hS hm hl
  have hz : w.heap.size + 1 ≤ (w.alloc (.cells #[.slice A l.length c, .int .i64 0, .int .u64 0] 65)).heap.size := by simp
  have hB : Below w.heap.size w (w.alloc (.cells #[.slice A l.length c, .int .i64 0, .int .u64 0] 65)) := by go_grown
  clear hS hl hm
  go_enter Tryz.func30, Tryz.ntmps30
  go_wp2_with fail
  refine (anyLog_any w.heap.size A c l 0 _ hC0 (by omega)).mono ?_
  rintro e w1 ⟨B1, d1, L1, rfl, hl1, hm1, hO1, hC1, hFn⟩
  have hE1 : EL (w.heap.size + 1) w1 B1 d1 L1 := EL.of (by omega) hm1 hO1 hz
  clear hO1
  replace hB := hB.trans (hFn.below (B := w.heap.size) (Nat.le_refl _) hB.size)
  replace hz := Nat.le_trans hz hFn.size
  clear hFn hC0
  go_wp2_with fail
  refine (of_lit w.heap.size A c l (0 + 400) [⟨#[]⟩, ⟨#[97, 32, 98]⟩, ⟨#[65]⟩, ⟨#[116, 119, 101, 110, 116, 121, 98, 121, 116, 101, 115, 111, 102, 116, 101, 120, 116, 111, 111, 111, 111]⟩, ⟨#[116, 119, 101, 110, 116, 121, 98, 121, 116, 101, 115, 111, 102, 116, 101, 120, 116, 111, 111, 111]⟩] 5 rfl 41 (List.forall_mem_cons.2 ⟨(by decide), (List.forall_mem_cons.2 ⟨(by decide), (List.forall_mem_cons.2 ⟨(by decide), (List.forall_mem_cons.2 ⟨(by decide), (List.forall_mem_cons.2 ⟨(by decide), (fun _ h => nomatch h)⟩)⟩)⟩)⟩)⟩) _ _ _ _ (by simp) rfl hC1 (by omega) (by simp) (by simp)).mono ?_
  rintro e w2 ⟨s1, hs1, rfl, hC2, hFn⟩
  replace hE1 := hE1.cur hFn
  replace hB := hB.trans (hFn.below (B := w.heap.size) (Nat.le_refl _) hB.size)
  replace hz := Nat.le_trans hz hFn.size
  clear hFn hC1
  go_wp2_with fail
  refine (of_lit w.heap.size A c l (0 + 402) [⟨#[112, 49]⟩, ⟨#[112, 50]⟩, ⟨#[99, 97, 108, 108, 101, 100]⟩, ⟨#[99, 97, 110, 99, 101, 108]⟩, ⟨#[49]⟩, ⟨#[111, 107]⟩, ⟨#[45]⟩, s1] 8 rfl 41 (List.forall_mem_cons.2 ⟨(by decide), (List.forall_mem_cons.2 ⟨(by decide), (List.forall_mem_cons.2 ⟨(by decide), (List.forall_mem_cons.2 ⟨(by decide), (List.forall_mem_cons.2 ⟨(by decide), (List.forall_mem_cons.2 ⟨(by decide), (List.forall_mem_cons.2 ⟨(by decide), (List.forall_mem_cons.2 ⟨hs1, (fun _ h => nomatch h)⟩)⟩)⟩)⟩)⟩)⟩)⟩)⟩) _ _ _ _ (by simp) rfl hC2 (by omega) (by simp) (by simp)).mono ?_
  rintro e w3 ⟨s2, hs2, rfl, hC3, hFn⟩
  replace hE1 := hE1.cur hFn
  replace hB := hB.trans (hFn.below (B := w.heap.size) (Nat.le_refl _) hB.size)
  replace hz := Nat.le_trans hz hFn.size
  clear hFn hC2
  go_wp2
  go_ret2
  exact ⟨B1, d1, L1, s2, rfl, hs2, hE1.lift (Nat.le_succ _), hB⟩
set_option maxHeartbeats 4000000 in
theorem DrawIsEntry_any (A : Option Addr) (c : Nat) (l : List Int) (w : World) (hl : l.length ≤ maxLen) (hm : ∀ x ∈ l, 0 ≤ x ∧ x ≤ 255) (hS : Sl byE 1 w 0 w.heap.size A l) :
    Calls Tryz.prog 86 #[.slice A l.length c] w fun e w' => ∃ x : Ent, x.t.size ≤ 41 ∧ e = .returned (.agg #[.int .i64 x.r, .int .i64 x.n, .int .i64 x.m, .string x.t]) ∧ Below w.heap.size w w' := by
  have hR := (BN.new w #[.int .i64 0, .int .i64 0, .int .i64 0, .string ⟨#[]⟩] 33 _ rfl).alloc (by simp) (.cells #[.slice A l.length c, .int .i64 0, .int .u64 0] 65)
  have hC0 := Cur.new (w.alloc (.cells #[.int .i64 0, .int .i64 0, .int .i64 0, .string ⟨#[]⟩] 33)) A c l 65 (w.heap.size + 1) (by simp) (hS.alloc _).all hm hl
  have hB : Below w.heap.size w ((w.alloc (.cells #[.int .i64 0, .int .i64 0, .int .i64 0, .string ⟨#[]⟩] 33)).alloc (.cells #[.slice A l.length c, .int .i64 0, .int .u64 0] 65)) := by go_grown
  go_enter Tryz.func86, Tryz.ntmps86
  go_wp2_with fail
  refine (entry_any (w.heap.size + 1) A c l 0 _ hC0 (by omega)).mono ?_
  rintro e w1 ⟨x, hx, rfl, hC1, hFn⟩
  replace hR := hR.fr hFn (by simp) (by omega)
  replace hB := hB.trans (hFn.below (B := w.heap.size) (by omega) (by have := hB.size; omega))
  clear hFn hC0 hC1
  have hw := hR.lt (by simp)
  have hR' := ((((hR.put (i := 0) rfl (.int .i64 x.r)).put (i := 1) rfl (.int .i64 x.n)).put (i := 2) rfl (.int .i64 x.m)).put (i := 3) rfl (.string x.t))
  have hFs : Fr w.heap.size (w.heap.size + 1) w1 ((((w1.setCell ⟨w.heap.size, 0, none⟩ (.int .i64 x.r)).setCell ⟨w.heap.size, 1, none⟩ (.int .i64 x.n)).setCell ⟨w.heap.size, 2, none⟩ (.int .i64 x.m)).setCell ⟨w.heap.size, 3, none⟩ (.string x.t)) := ((((((((Fr.refl w.heap.size (w.heap.size + 1) w1).setCell ⟨by simp, by simp⟩ _)).setCell ⟨by simp, by simp⟩ _)).setCell ⟨by simp, by simp⟩ _)).setCell ⟨by simp, by simp⟩ _)
  have hB' := hB.trans (hFs.below (B := w.heap.size) (Nat.le_refl _) (by omega))
  have r0 := (hR 0 _ rfl).1
  have g0 := (hR 0 _ rfl).2
  have x0 := (hR' 0 _ rfl).1
  have r1 := (hR 1 _ rfl).1
  have g1 := (hR 1 _ rfl).2
  have x1 := (hR' 1 _ rfl).1
  have r2 := (hR 2 _ rfl).1
  have g2 := (hR 2 _ rfl).2
  have x2 := (hR' 2 _ rfl).1
  have r3 := (hR 3 _ rfl).1
  have g3 := (hR 3 _ rfl).2
  have x3 := (hR' 3 _ rfl).1
  go_wp2
  refine bodyPost_ret (by simp [results, Tryz.results86, go_sem, x0, x1, x2, x3]; try rfl) rfl ?_
  exact ⟨x, hx, rfl, hB'⟩
set_option maxHeartbeats 4000000 in
theorem DrawEntryText_any (A : Option Addr) (c : Nat) (l : List Int) (w : World) (hl : l.length ≤ maxLen) (hm : ∀ x ∈ l, 0 ≤ x ∧ x ≤ 255) (hS : Sl byE 1 w 0 w.heap.size A l) :
    Calls Tryz.prog 36 #[.slice A l.length c] w fun e w' => ∃ x : Ent, x.t.size ≤ 41 ∧ e = .returned (.agg #[.int .i64 x.r, .int .i64 x.n, .int .i64 x.m, .string x.t]) ∧ Below w.heap.size w w' := by
  have hR := BN.new w #[.int .i64 0, .int .i64 0, .int .i64 0, .string ⟨#[]⟩] 33 _ rfl
  have hB : Below w.heap.size w (w.alloc (.cells #[.int .i64 0, .int .i64 0, .int .i64 0, .string ⟨#[]⟩] 33)) := by go_grown
  go_enter Tryz.func36, Tryz.ntmps36
  go_wp2_with fail
  refine (DrawIsEntry_any A c l _ hl hm (hS.alloc _).all).mono ?_
  rintro e w1 ⟨x, hx, rfl, hb⟩
  replace hR := hR.below (by simp) hb
  replace hB := Below.on' hB hb
  have hw := hR.lt (by simp)
  have hR' := ((((hR.put (i := 0) rfl (.int .i64 x.r)).put (i := 1) rfl (.int .i64 x.n)).put (i := 2) rfl (.int .i64 x.m)).put (i := 3) rfl (.string x.t))
  have hFs : Fr w.heap.size (w.heap.size + 1) w1 ((((w1.setCell ⟨w.heap.size, 0, none⟩ (.int .i64 x.r)).setCell ⟨w.heap.size, 1, none⟩ (.int .i64 x.n)).setCell ⟨w.heap.size, 2, none⟩ (.int .i64 x.m)).setCell ⟨w.heap.size, 3, none⟩ (.string x.t)) := ((((((((Fr.refl w.heap.size (w.heap.size + 1) w1).setCell ⟨by simp, by simp⟩ _)).setCell ⟨by simp, by simp⟩ _)).setCell ⟨by simp, by simp⟩ _)).setCell ⟨by simp, by simp⟩ _)
  have hB' := hB.trans (hFs.below (B := w.heap.size) (Nat.le_refl _) (by omega))
  have r0 := (hR 0 _ rfl).1
  have g0 := (hR 0 _ rfl).2
  have x0 := (hR' 0 _ rfl).1
  have r1 := (hR 1 _ rfl).1
  have g1 := (hR 1 _ rfl).2
  have x1 := (hR' 1 _ rfl).1
  have r2 := (hR 2 _ rfl).1
  have g2 := (hR 2 _ rfl).2
  have x2 := (hR' 2 _ rfl).1
  have r3 := (hR 3 _ rfl).1
  have g3 := (hR 3 _ rfl).2
  have x3 := (hR' 3 _ rfl).1
  go_wp2
  refine bodyPost_ret (by simp [results, Tryz.results36, go_sem, x0, x1, x2, x3]; try rfl) rfl ?_
  exact ⟨x, hx, rfl, hB'⟩
set_option maxRecDepth 10000 in
set_option maxHeartbeats 4000000 in
theorem DrawParseLog_any (A : Option Addr) (c : Nat) (l : List Int) (w : World) (hl : l.length ≤ maxLen) (hm : ∀ x ∈ l, 0 ≤ x ∧ x ≤ 255) (hS : Sl byE 1 w 0 w.heap.size A l) :
    Calls Tryz.prog 24 #[.slice A l.length c] w fun e w' => ∃ s : ByteArray, s.size ≤ 1048576 ∧ e = .returned (.string s) ∧ Below w.heap.size w w' := by
  have hC0 := Cur.new w A c l 65 w.heap.size rfl hS hm hl
  have hz : w.heap.size + 1 ≤ (w.alloc (.cells #[.slice A l.length c, .int .i64 0, .int .u64 0] 65)).heap.size := by simp
  have hB : Below w.heap.size w (w.alloc (.cells #[.slice A l.length c, .int .i64 0, .int .u64 0] 65)) := by go_grown
  clear hS hl hm
  go_enter Tryz.func24, Tryz.ntmps24
  go_wp2_with fail
  refine (pick_any w.heap.size A c l 0 2 _ hC0 (by omega) (by omega)).mono ?_
  rintro e w1 ⟨_, rfl, ⟨k1, rfl, hk1⟩, hC1, hFn⟩
  replace hB := hB.trans (hFn.below (B := w.heap.size) (Nat.le_refl _) hB.size)
  replace hz := Nat.le_trans hz hFn.size
  clear hFn hC0
  have hk1' : k1 ≤ 1 := by omega
  clear hk1
  go_wp2_with fail
  refine (log_any w.heap.size A c l (0 + 2) _ _ hC1 (by omega)).mono ?_
  rintro e w2 ⟨B1, d1, L1, rfl, hg1, hO1, hC2, hFn⟩
  have hE1 : EL (w.heap.size + 1) w2 B1 d1 L1 := EL.of (log_in hg1) (log_small hg1) hO1 hz
  clear hO1
  replace hB := hB.trans (hFn.below (B := w.heap.size) (Nat.le_refl _) hB.size)
  replace hz := Nat.le_trans hz hFn.size
  clear hFn hC1
  go_wp2_with fail
  refine (lgAll_any B1 d1 L1 _ (by have := logB_len hg1; omega) (logB_ents hg1).1 hE1.2.2.all).mono ?_
  rintro e v1 ⟨rfl, hb⟩
  have hsz : (allT L1).size ≤ 1060 := by have h1 := allT_size (logB_ents hg1).1; have h2 := logB_len hg1; omega
  generalize allT L1 = s0 at hsz ⊢
  replace hC2 := hC2.below hb
  replace hB := Below.on' hB hb
  replace hz := Nat.le_trans hz hb.size
  clear hb hE1 hg1
  go_wp2_with fail
  refine (pick_any w.heap.size A c l (0 + 302) 6 _ hC2 (by omega) (by omega)).mono ?_
  rintro e w3 ⟨_, rfl, ⟨m, rfl, _⟩, hC3, hFn⟩
  replace hB := hB.trans (hFn.below (B := w.heap.size) (Nat.le_refl _) hB.size)
  replace hz := Nat.le_trans hz hFn.size
  clear hFn hC2
  by_cases e0 : m = 0
  · have q0 : ((m : Int) == 0) = true := by simp [e0]
    clear e0
    go_wp2_with fail
    refine (spoilt_any w.heap.size A c l (0 + 304) s0 ⟨#[46, 64, 32, 48, 49, 50, 10]⟩ _ hC3 (by omega) (by omega) (by decide) (by decide)).mono ?_
    rintro e w4 ⟨s9, hs9, rfl, hC4, hFn⟩
    replace hB := hB.trans (hFn.below (B := w.heap.size) (Nat.le_refl _) hB.size)
    replace hz := Nat.le_trans hz hFn.size
    clear hFn hC3
    go_wp2
    go_ret
    exact ⟨s9, by omega, rfl, hB⟩
  have q0 : ((m : Int) == 0) = false := by simp; omega
  clear e0
  by_cases e1 : m = 1
  · have q1 : ((m : Int) == 1) = true := by simp [e1]
    clear e1
    go_wp2_with fail
    refine (spoilt_any w.heap.size A c l (0 + 304) s0 ⟨#[46, 64, 32, 48, 49, 50, 10]⟩ _ hC3 (by omega) (by omega) (by decide) (by decide)).mono ?_
    rintro e w4 ⟨s9, hs9, rfl, hC4, hFn⟩
    replace hB := hB.trans (hFn.below (B := w.heap.size) (Nat.le_refl _) hB.size)
    replace hz := Nat.le_trans hz hFn.size
    clear hFn hC3
    go_wp2
    go_ret
    exact ⟨s9, by omega, rfl, hB⟩
  have q1 : ((m : Int) == 1) = false := by simp; omega
  clear e1
  by_cases e2 : m = 2
  · have q2 : ((m : Int) == 2) = true := by simp [e2]
    clear e2
    go_wp2_with fail
    refine (of_lit w.heap.size A c l (0 + 304) [⟨#[]⟩, ⟨#[10]⟩, ⟨#[49, 46, 49, 64, 53, 32, 120]⟩, ⟨#[49, 46, 50, 64, 53, 32, 120, 10]⟩, ⟨#[49, 46, 49, 64, 53, 32, 120, 10, 50, 46, 50, 64, 53, 32, 120, 10]⟩, ⟨#[49, 46, 49, 64, 53, 32, 120, 10, 49, 46, 50, 64, 52, 32, 120, 10]⟩, ⟨#[49, 46, 49, 64, 53, 32, 120, 10, 49, 46, 50, 64, 53, 32, 120, 10]⟩] 7 rfl 60 (List.forall_mem_cons.2 ⟨(by decide), (List.forall_mem_cons.2 ⟨(by decide), (List.forall_mem_cons.2 ⟨(by decide), (List.forall_mem_cons.2 ⟨(by decide), (List.forall_mem_cons.2 ⟨(by decide), (List.forall_mem_cons.2 ⟨(by decide), (List.forall_mem_cons.2 ⟨(by decide), (fun _ h => nomatch h)⟩)⟩)⟩)⟩)⟩)⟩)⟩) _ _ _ _ (by simp) rfl hC3 (by omega) (by simp) (by simp)).mono ?_
    rintro e w4 ⟨s9, hs9, rfl, hC4, hFn⟩
    replace hB := hB.trans (hFn.below (B := w.heap.size) (Nat.le_refl _) hB.size)
    replace hz := Nat.le_trans hz hFn.size
    clear hFn hC3
    go_wp2
    go_ret
    exact ⟨s9, by omega, rfl, hB⟩
  have q2 : ((m : Int) == 2) = false := by simp; omega
  clear e2
  go_wp2
  go_ret
  exact ⟨s0, by omega, rfl, hB⟩
set_option maxRecDepth 10000 in
set_option maxHeartbeats 4000000 in
theorem DrawParseEntry_any (A : Option Addr) (c : Nat) (l : List Int) (w : World) (hl : l.length ≤ maxLen) (hm : ∀ x ∈ l, 0 ≤ x ∧ x ≤ 255) (hS : Sl byE 1 w 0 w.heap.size A l) :
    Calls Tryz.prog 39 #[.slice A l.length c] w fun e w' => ∃ s : ByteArray, s.size ≤ 1048576 ∧ e = .returned (.string s) ∧ Below w.heap.size w w' := by
  have hC0 := Cur.new w A c l 65 w.heap.size rfl hS hm hl
  have hz : w.heap.size + 1 ≤ (w.alloc (.cells #[.slice A l.length c, .int .i64 0, .int .u64 0] 65)).heap.size := by simp
  have hB : Below w.heap.size w (w.alloc (.cells #[.slice A l.length c, .int .i64 0, .int .u64 0] 65)) := by go_grown
  clear hS hl hm
  go_enter Tryz.func39, Tryz.ntmps39
  go_wp2_with fail
  refine (entry_any w.heap.size A c l 0 _ hC0 (by omega)).mono ?_
  rintro e w1 ⟨x, hx, rfl, hC1, hFn⟩
  replace hB := hB.trans (hFn.below (B := w.heap.size) (Nat.le_refl _) hB.size)
  replace hz := Nat.le_trans hz hFn.size
  clear hFn hC0
  have hX := BN.new w1 #[.int .i64 x.r, .int .i64 x.n, .int .i64 x.m, .string x.t] 33 _ rfl
  replace hB := Below.lay hB (.cells #[.int .i64 x.r, .int .i64 x.n, .int .i64 x.m, .string x.t] 33)
  replace hC1 := hC1.alloc (.cells #[.int .i64 x.r, .int .i64 x.n, .int .i64 x.m, .string x.t] 33)
  replace hz : w.heap.size + 1 ≤ (w1.alloc (.cells #[.int .i64 x.r, .int .i64 x.n, .int .i64 x.m, .string x.t] 33)).heap.size := by simp; omega
  have z0 := (hX 0 _ rfl).1
  have z1 := (hX 1 _ rfl).1
  have z2 := (hX 2 _ rfl).1
  have z3 := (hX 3 _ rfl).1
  go_wp2_with fail
  refine (lgOne_any x.r x.n x.m x.t (by unfold maxLen; omega) _).mono ?_
  rintro e v1 ⟨rfl, hb⟩
  replace hC1 := hC1.below hb
  replace hB := Below.on' hB hb
  replace hz := Nat.le_trans hz hb.size
  replace hX := hX.below (by simp) hb
  clear hb z0 z1 z2 z3
  by_cases g : entB x.r x.n x.m x.t = true
  · skip
    rw [g]
    have z0 := (hX 0 _ rfl).1
    have z1 := (hX 1 _ rfl).1
    have z2 := (hX 2 _ rfl).1
    have z3 := (hX 3 _ rfl).1
    go_wp2_with fail
    refine (lgLine_any x g _).mono ?_
    rintro e v2 ⟨rfl, hb⟩
    have hsz : (lineT x).size ≤ 60 := by have := line_len g; omega
    generalize lineT x = s0 at hsz ⊢
    replace hC1 := hC1.below hb
    replace hB := Below.on' hB hb
    replace hz := Nat.le_trans hz hb.size
    clear hb z0 z1 z2 z3 hX g
    go_wp2_with fail
    refine (pick_any w.heap.size A c l (0 + 20) 6 _ hC1 (by omega) (by omega)).mono ?_
    rintro e w2 ⟨_, rfl, ⟨m, rfl, _⟩, hC2, hFn⟩
    replace hB := hB.trans (hFn.below (B := w.heap.size) (Nat.le_refl _) hB.size)
    replace hz := Nat.le_trans hz hFn.size
    clear hFn hC1
    by_cases e0 : m = 0
    · have q0 : ((m : Int) == 0) = true := by simp [e0]
      clear e0
      go_wp2_with fail
      refine (spoilt_any w.heap.size A c l (0 + 22) s0 ⟨#[46, 64, 32, 48, 49, 97, 112]⟩ _ hC2 (by omega) (by omega) (by decide) (by decide)).mono ?_
      rintro e w3 ⟨s9, hs9, rfl, hC3, hFn⟩
      replace hB := hB.trans (hFn.below (B := w.heap.size) (Nat.le_refl _) hB.size)
      replace hz := Nat.le_trans hz hFn.size
      clear hFn hC2
      go_wp2
      go_ret
      exact ⟨s9, by omega, rfl, hB⟩
    have q0 : ((m : Int) == 0) = false := by simp; omega
    clear e0
    by_cases e1 : m = 1
    · have q1 : ((m : Int) == 1) = true := by simp [e1]
      clear e1
      go_wp2_with fail
      refine (spoilt_any w.heap.size A c l (0 + 22) s0 ⟨#[46, 64, 32, 48, 49, 97, 112]⟩ _ hC2 (by omega) (by omega) (by decide) (by decide)).mono ?_
      rintro e w3 ⟨s9, hs9, rfl, hC3, hFn⟩
      replace hB := hB.trans (hFn.below (B := w.heap.size) (Nat.le_refl _) hB.size)
      replace hz := Nat.le_trans hz hFn.size
      clear hFn hC2
      go_wp2
      go_ret
      exact ⟨s9, by omega, rfl, hB⟩
    have q1 : ((m : Int) == 1) = false := by simp; omega
    clear e1
    by_cases e2 : m = 2
    · have q2 : ((m : Int) == 2) = true := by simp [e2]
      clear e2
      go_wp2_with fail
      refine (of_lit w.heap.size A c l (0 + 22) [⟨#[]⟩, ⟨#[49, 46, 49, 64, 53]⟩, ⟨#[49, 46, 49, 64, 53, 32]⟩, ⟨#[51, 46, 49, 64, 53, 32, 120]⟩, ⟨#[49, 46, 48, 49, 64, 53, 32, 120]⟩, ⟨#[49, 46, 49, 64, 48, 53, 32, 120]⟩, ⟨#[49, 46, 49, 64, 53, 32, 88]⟩, ⟨#[49, 64, 53, 32, 120]⟩, ⟨#[49, 46, 49, 32, 120]⟩] 9 rfl 60 (List.forall_mem_cons.2 ⟨(by decide), (List.forall_mem_cons.2 ⟨(by decide), (List.forall_mem_cons.2 ⟨(by decide), (List.forall_mem_cons.2 ⟨(by decide), (List.forall_mem_cons.2 ⟨(by decide), (List.forall_mem_cons.2 ⟨(by decide), (List.forall_mem_cons.2 ⟨(by decide), (List.forall_mem_cons.2 ⟨(by decide), (List.forall_mem_cons.2 ⟨(by decide), (fun _ h => nomatch h)⟩)⟩)⟩)⟩)⟩)⟩)⟩)⟩)⟩) _ _ _ _ (by simp) rfl hC2 (by omega) (by simp) (by simp)).mono ?_
      rintro e w3 ⟨s9, hs9, rfl, hC3, hFn⟩
      replace hB := hB.trans (hFn.below (B := w.heap.size) (Nat.le_refl _) hB.size)
      replace hz := Nat.le_trans hz hFn.size
      clear hFn hC2
      go_wp2
      go_ret
      exact ⟨s9, by omega, rfl, hB⟩
    have q2 : ((m : Int) == 2) = false := by simp; omega
    clear e2
    go_wp2
    go_ret
    exact ⟨s0, by omega, rfl, hB⟩
  · have g : entB x.r x.n x.m x.t = false := by simpa using g
    rw [g]
    obtain ⟨s0, hs0⟩ : ∃ s0 : ByteArray, Hid (s0 = ⟨#[49, 46, 49, 64, 53, 32, 112, 49, 32, 99, 97, 108, 108, 101, 100]⟩) := ⟨_, Lib.hid rfl⟩
    have hsz : s0.size ≤ 60 := by rw [hs0.out]; decide
    clear hX g
    go_wp2_with fail
    refine (pick_any w.heap.size A c l (0 + 20) 6 _ hC1 (by omega) (by omega)).mono ?_
    rintro e w2 ⟨_, rfl, ⟨m, rfl, _⟩, hC2, hFn⟩
    replace hB := hB.trans (hFn.below (B := w.heap.size) (Nat.le_refl _) hB.size)
    replace hz := Nat.le_trans hz hFn.size
    clear hFn hC1
    rw [← hs0.out]
    clear hs0
    by_cases e0 : m = 0
    · have q0 : ((m : Int) == 0) = true := by simp [e0]
      clear e0
      go_wp2_with fail
      refine (spoilt_any w.heap.size A c l (0 + 22) s0 ⟨#[46, 64, 32, 48, 49, 97, 112]⟩ _ hC2 (by omega) (by omega) (by decide) (by decide)).mono ?_
      rintro e w3 ⟨s9, hs9, rfl, hC3, hFn⟩
      replace hB := hB.trans (hFn.below (B := w.heap.size) (Nat.le_refl _) hB.size)
      replace hz := Nat.le_trans hz hFn.size
      clear hFn hC2
      go_wp2
      go_ret
      exact ⟨s9, by omega, rfl, hB⟩
    have q0 : ((m : Int) == 0) = false := by simp; omega
    clear e0
    by_cases e1 : m = 1
    · have q1 : ((m : Int) == 1) = true := by simp [e1]
      clear e1
      go_wp2_with fail
      refine (spoilt_any w.heap.size A c l (0 + 22) s0 ⟨#[46, 64, 32, 48, 49, 97, 112]⟩ _ hC2 (by omega) (by omega) (by decide) (by decide)).mono ?_
      rintro e w3 ⟨s9, hs9, rfl, hC3, hFn⟩
      replace hB := hB.trans (hFn.below (B := w.heap.size) (Nat.le_refl _) hB.size)
      replace hz := Nat.le_trans hz hFn.size
      clear hFn hC2
      go_wp2
      go_ret
      exact ⟨s9, by omega, rfl, hB⟩
    have q1 : ((m : Int) == 1) = false := by simp; omega
    clear e1
    by_cases e2 : m = 2
    · have q2 : ((m : Int) == 2) = true := by simp [e2]
      clear e2
      go_wp2_with fail
      refine (of_lit w.heap.size A c l (0 + 22) [⟨#[]⟩, ⟨#[49, 46, 49, 64, 53]⟩, ⟨#[49, 46, 49, 64, 53, 32]⟩, ⟨#[51, 46, 49, 64, 53, 32, 120]⟩, ⟨#[49, 46, 48, 49, 64, 53, 32, 120]⟩, ⟨#[49, 46, 49, 64, 48, 53, 32, 120]⟩, ⟨#[49, 46, 49, 64, 53, 32, 88]⟩, ⟨#[49, 64, 53, 32, 120]⟩, ⟨#[49, 46, 49, 32, 120]⟩] 9 rfl 60 (List.forall_mem_cons.2 ⟨(by decide), (List.forall_mem_cons.2 ⟨(by decide), (List.forall_mem_cons.2 ⟨(by decide), (List.forall_mem_cons.2 ⟨(by decide), (List.forall_mem_cons.2 ⟨(by decide), (List.forall_mem_cons.2 ⟨(by decide), (List.forall_mem_cons.2 ⟨(by decide), (List.forall_mem_cons.2 ⟨(by decide), (List.forall_mem_cons.2 ⟨(by decide), (fun _ h => nomatch h)⟩)⟩)⟩)⟩)⟩)⟩)⟩)⟩)⟩) _ _ _ _ (by simp) rfl hC2 (by omega) (by simp) (by simp)).mono ?_
      rintro e w3 ⟨s9, hs9, rfl, hC3, hFn⟩
      replace hB := hB.trans (hFn.below (B := w.heap.size) (Nat.le_refl _) hB.size)
      replace hz := Nat.le_trans hz hFn.size
      clear hFn hC2
      go_wp2
      go_ret
      exact ⟨s9, by omega, rfl, hB⟩
    have q2 : ((m : Int) == 2) = false := by simp; omega
    clear e2
    go_wp2
    go_ret
    exact ⟨s0, by omega, rfl, hB⟩
end Go.Proofs.YtmdmcjhodhphgaaGreatDoor

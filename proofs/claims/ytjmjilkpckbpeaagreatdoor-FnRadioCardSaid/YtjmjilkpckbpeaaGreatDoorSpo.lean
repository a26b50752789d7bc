/- Spoilt texts: what drawing one returns, and that only the cursor changes. Conditions: a valid cursor, fewer than 2^39 steps. -/
import Derived.Test.YtjmjilkpckbpeaaGreatDoorDrw
import Derived.BigQuiet
namespace Go.Proofs.YtjmjilkpckbpeaaGreatDoor
open Go.RowKit

theorem backC (W : World) (g : Nat) (c : UInt8) (hc : W.cell? ⟨g, 0, none⟩ = some (.int .u8 (c.toNat : Int))) : (convert 22 9 (.slice (some ⟨g, 0, none⟩) 1 1)).run Tryz.prog W = .ok (.string ⟨#[c]⟩) W :=
  run_convert_bytes_back (P := Tryz.prog) W 22 9 5 ⟨g, 0, none⟩ 1 [c] Tryz.underlying22 Tryz.underlying5 Tryz.underlying9 (fun j hj => by
    cases j with
    | zero => exact hc
    | succ j => simp at hj)
theorem Cur.drewN' {pb N c : Nat} {A : Option Addr} {l : List Int} {w : World} (h : Cur pb A c l N w) (n : Nat) : Cur pb A c l N (w.drewN n) := h.below ⟨rfl, rfl, rfl, Nat.le_refl _, fun _ _ => rfl⟩
theorem Fr.drewN' {lo hi : Nat} {w W : World} (h : Fr lo hi w W) (n : Nat) : Fr lo hi w (W.drewN n) := ⟨h.os, h.tape, h.output, h.size, h.block⟩
set_option maxRecDepth 10000 in
set_option maxHeartbeats 8000000 in
theorem spoilt_any (pb : Nat) (A : Option Addr) (c : Nat) (l : List Int) (N : Nat) (t q : ByteArray) (w : World) (hC : Cur pb A c l N w) (hN : N ≤ 700000000000) (ht : t.size ≤ 1000000) (hq0 : 0 < q.size) (hq1 : q.size ≤ 1000) :
    Calls Tryz.prog 89 #[.pointer (some ⟨pb, 0, none⟩), .string t, .string q] w (CS pb A c l (N + 20) (t.size + 2) w) := by
  have hpb := hC.lt
  go_enter Tryz.func89, Tryz.ntmps89
  go_wp2_with fail
  refine (pick_any pb A c l N 2 _ hC (by omega) (by omega)).mono ?_
  rintro e w1 ⟨_, rfl, ⟨k1, rfl, hk1⟩, hC1, hF1⟩
  have hz1 := hF1.size
  have hk1' : k1 ≤ 1 := by omega
  clear hC hk1
  go_wp2_with fail
  go_loopw [1, 7] (fun s n wr => ∃ (u : ByteArray) (k : Nat), s = .string u ∧ n = .int .i64 k ∧ k ≤ 2 ∧ u.size + k ≤ t.size + 2 ∧ Cur pb A c l (N + 2 + 6 * (2 - k)) wr ∧ Fr pb (pb + 1) w wr ∧ w.heap.size ≤ wr.heap.size) (fun _ n _ => (intOf n).toNat)
  case atStart => exact ⟨t, 1 + k1, rfl, by first | go_num | (congr 1; omega), by omega, by omega, hC1.more (by omega), hF1, by omega⟩
  case round =>
    clear hC1 hF1 hz1 hk1'
    obtain ⟨u, k, rfl, rfl, hk, hu, hC, hF, hz⟩ := hrel
    by_cases hk0 : 0 < k
    rotate_left
    · have hk0' : ¬ (0 : Int) < k := by omega
      go_wp2
      go_ret
      exact ⟨u, by omega, rfl, hC.more (by omega), hF⟩
    have hk0' : (0 : Int) < k := by omega
    by_cases hu0 : 0 < u.size
    rotate_left
    · have hu0' : ¬ (0 : Int) < u.size := by omega
      go_wp2
      go_ret
      exact ⟨u, by omega, rfl, hC.more (by omega), hF⟩
    have hu0' : (0 : Int) < u.size := by omega
    go_wp2_with fail
    refine (pick_any pb A c l (N + 2 + 6 * (2 - k)) _ _ hC (by omega) (by omega)).mono ?_
    rintro e w2 ⟨_, rfl, ⟨i, rfl, hi⟩, hC2, hFn⟩
    have hF2 := hF.trans hFn
    have hz2 := hFn.size
    have hiu : i < u.size := by omega
    have hiu' : (i : Int) < u.size := by omega
    have hi0 : (0 : Int) ≤ i := by omega
    clear hFn hC hF hi
    go_wp2_with fail
    refine (pick_any pb A c l (N + 2 + 6 * (2 - k) + 2) _ _ hC2 (by omega) (by omega)).mono ?_
    rintro e w3 ⟨_, rfl, ⟨j, rfl, hj⟩, hC3, hFn⟩
    have hF3 := hF2.trans hFn
    have hz3 := hFn.size
    have hjq : j < q.size := by omega
    have hjq' : (j : Int) < q.size := by omega
    clear hFn hC2 hF2 hj
    have hr := backC (w3.alloc (.cells #[.int .u8 (q[j].toNat : Int)] 5)) w3.heap.size q[j] (by rw [World.cell?_alloc_at _ _ _ _ rfl]; rfl)
    go_wp2_with fail
    refine (pick_any pb A c l (N + 2 + 6 * (2 - k) + 4) 3 _ (hC3.alloc _) (by omega) (by omega)).mono ?_
    rintro e w4 ⟨_, rfl, ⟨m, rfl, _⟩, hC4, hFn⟩
    have hF4 := (hF3.alloc _).trans hFn
    have hz4 : w.heap.size ≤ w4.heap.size := hF4.size
    replace hC4 : Cur pb A c l (N + 2 + 6 * (2 - (k - 1))) w4 := hC4.more (by omega)
    clear hFn hC3 hF3 hr
    have hs1 : (⟨#[q[j]]⟩ : ByteArray).size = 1 := rfl
    have hw1 : IntKind.i64.wrap ((i : Int) + 1) = (i : Int) + 1 := IntWalk.i64_in _ (by omega)
    have hw2 : ((i : Int) + 1).toNat = i + 1 := by omega
    have hi1 : (i : Int) + 1 ≤ u.size := by omega
    have x1 : (u.extract 0 i).size = i := by rw [ByteArray.size_extract]; omega
    generalize hbs : (⟨#[q[j]]⟩ : ByteArray) = bs at hs1 ⊢
    clear hbs
    have y1 : ¬ 9223372036854775807 < (u.extract 0 i).size + bs.size := by omega
    by_cases e0 : m = 0
    · have q0 : ((m : Int) == 0) = true := by simp [e0]
      have y2 : ¬ 9223372036854775807 < (u.extract 0 i ++ bs).size + (u.extract i u.size).size := by rw [ByteArray.size_append, ByteArray.size_extract, ByteArray.size_extract]; omega
      clear e0 x1 hw1 hw2 hi1
      go_wp2_with fail
      go_quiet (fail)
      go_wp2
      go_roundw
      case rel => exact ⟨_, k - 1, rfl, by first | go_num | (congr 1; omega), by omega, by simp only [ByteArray.size_append, ByteArray.size_extract, hs1]; omega, hC4.drewN' _, hF4.drewN' _, hz4⟩
      case measure => simp [intOf]; omega
    have q0 : ((m : Int) == 0) = false := by simp; omega
    by_cases e1 : m = 1
    · have q1 : ((m : Int) == 1) = true := by simp [e1]
      have y2 : ¬ 9223372036854775807 < (u.extract 0 i ++ bs).size + (u.extract (i + 1) u.size).size := by rw [ByteArray.size_append, ByteArray.size_extract, ByteArray.size_extract]; omega
      clear e0 e1 x1
      go_wp2_with fail
      go_quiet (fail)
      clear hw1 hw2
      go_wp2
      go_roundw
      case rel => exact ⟨_, k - 1, rfl, by first | go_num | (congr 1; omega), by omega, by simp only [ByteArray.size_append, ByteArray.size_extract, hs1]; omega, hC4.drewN' _, hF4.drewN' _, hz4⟩
      case measure => simp [intOf]; omega
    have q1 : ((m : Int) == 1) = false := by simp; omega
    have y2 : ¬ 9223372036854775807 < (u.extract 0 i).size + (u.extract (i + 1) u.size).size := by rw [ByteArray.size_extract, ByteArray.size_extract]; omega
    clear e0 e1 x1 y1
    go_wp2_with fail
    go_quiet (fail)
    clear hw1 hw2
    go_wp2
    go_roundw
    case rel => exact ⟨_, k - 1, rfl, by first | go_num | (congr 1; omega), by omega, by simp only [ByteArray.size_append, ByteArray.size_extract]; omega, hC4.drewN' _, hF4.drewN' _, hz4⟩
    case measure => simp [intOf]; omega
end Go.Proofs.YtjmjilkpckbpeaaGreatDoor

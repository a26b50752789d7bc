/- The laws' own comparisons of plain lists: numbers. Condition: at most 2^20 in each. -/
import Derived.Test.YtmdmcjhodhphgaaGreatDoorInts
import Derived.BigQuiet
namespace Go.Proofs.YtmdmcjhodhphgaaGreatDoor
open Go.RowKit

set_option maxHeartbeats 2000000 in
theorem sameInts_any (A A' : Option Addr) (c c' lo hi lo' hi' : Nat) (l : List Int) (w : World) (hl : l.length ≤ 1048576) (hS : Ints w lo hi A l) (hS' : Ints w lo' hi' A' l) :
    Calls Tryz.prog 17 #[.slice A l.length c, .slice A' l.length c'] w (RV w (.bool true)) := by
  go_enter Tryz.func17, Tryz.ntmps17
  go_wp2
  go_loopw [13] (fun i wr => ∃ q : Nat, q ≤ l.length ∧ i = .int .i64 q ∧ Below w.heap.size w wr) (fun i _ => l.length - (intOf i).toNat)
  case atStart => exact ⟨0, Nat.zero_le _, rfl, Below.refl _ _⟩
  case round =>
    obtain ⟨q, hq, rfl, hB⟩ := hrel
    by_cases hlt : q < l.length
    · obtain ⟨x, hx1, hx2⟩ := get_lt hlt
      obtain ⟨b, off, rfl, _, _, _, c0, _⟩ := Ints.at1 (hS.below hB) hx1
      obtain ⟨b', off', rfl, _, _, _, d0, _⟩ := Ints.at1 (hS'.below hB) hx1
      clear hx1 hx2
      have hq0 : (0 : Int) ≤ (q : Int) := by omega
      have hq1 : (q : Int) < (l.length : Int) := by omega
      go_wp2_with fail
      go_quiet (fail)
      clear c0 d0
      go_wp2
      go_roundw
      case rel => exact ⟨q + 1, by omega, by go_num, ⟨hB.os, hB.tape, hB.output, hB.size, hB.block⟩⟩
      case measure => simp [intOf]; omega
    · go_wp2
      go_ret
      exact RV.mk rfl hB
set_option maxHeartbeats 1000000 in
theorem pIn_any (A : Option Addr) (c lo hi : Nat) (L : List Int) (p : Int) (w : World) (hl : L.length ≤ 1048576) (hS : Ints w lo hi A L) : Calls Tryz.prog 18 #[.slice A L.length c, .int .i64 p] w (RV w (.bool (L.contains p))) := by
  go_enter Tryz.func18, Tryz.ntmps18
  go_wp2_with fail
  go_loopw [9] (fun i wr => ∃ k : Nat, k ≤ L.length ∧ i = .int .i64 k ∧ Hid ((L.take k).contains p = false) ∧ Below w.heap.size w wr) (fun i _ => L.length - (intOf i).toNat)
  case atStart => exact ⟨0, Nat.zero_le _, rfl, Lib.hid rfl, Below.refl _ _⟩
  case round =>
    obtain ⟨k, hk, rfl, HF, hB⟩ := hrel
    by_cases hlt : k < L.length
    · obtain ⟨x, hx, hxm⟩ := get_lt hlt
      obtain ⟨b, off, rfl, _, _, _, c0, _⟩ := Ints.at1 (hS.below hB) hx
      by_cases hq : x = p
      · have HT : Hid (L.contains p = true) := Lib.hid (by rw [List.contains_iff_mem, ← hq]; exact hxm)
        clear HF hx hxm
        have hq2 : (x == p) = true := by simp [hq]
        clear hq
        go_wp2
        go_ret
        exact RV.mk (by rw [HT.out]; rfl) hB
      · have hq' : (x == p) = false := by simpa using hq
        have HT : Hid ((L.take (k + 1)).contains p = false) := Lib.hid (by
          have := HF.out
          rw [Bool.eq_false_iff, Ne, List.contains_iff_mem] at this
          rw [take_snoc hx, Bool.eq_false_iff, Ne, List.contains_iff_mem, List.mem_append, List.mem_singleton]
          rintro (h | h)
          · exact this h
          · exact hq h.symm)
        clear HF hx hxm hq
        go_wp2
        go_roundw
        case rel => exact ⟨k + 1, by omega, by go_num, HT, hB⟩
        case measure => simp [intOf]; omega
    · have HT : Hid (L.contains p = false) := Lib.hid (by have := HF.out; rwa [List.take_of_length_le (by omega)] at this)
      clear HF
      go_wp2
      go_ret
      exact RV.mk (by rw [HT.out]; rfl) hB
end Go.Proofs.YtmdmcjhodhphgaaGreatDoor

/- The laws' own comparisons of plain lists: texts. Condition: at most 2^20 in each. -/
import Derived.Test.YtjmjilkpckbpeaaGreatDoorLA
import Derived.BigQuiet
namespace Go.Proofs.YtjmjilkpckbpeaaGreatDoor
open Go.RowKit

set_option maxHeartbeats 2000000 in
theorem qTexts_any (A A' : Option Addr) (c c' lo hi lo' hi' : Nat) (l : List ByteArray) (w : World) (hl : l.length ≤ 1048576) (hS : Strs w lo hi A l) (hS' : Strs w lo' hi' A' l) :
    Calls Tryz.prog 43 #[.slice A l.length c, .slice A' l.length c'] w (RV w (.bool true)) := by
  go_enter Tryz.func43, Tryz.ntmps43
  go_wp2
  go_loopw [13] (fun i wr => ∃ q : Nat, q ≤ l.length ∧ i = .int .i64 q ∧ Below w.heap.size w wr) (fun i _ => l.length - (intOf i).toNat)
  case atStart => exact ⟨0, Nat.zero_le _, rfl, Below.refl _ _⟩
  case round =>
    obtain ⟨q, hq, rfl, hB⟩ := hrel
    by_cases hlt : q < l.length
    · obtain ⟨x, hx1, hx2⟩ := get_lt hlt
      obtain ⟨b, off, rfl, _, _, _, c0, _⟩ := Strs.at1 (hS.below hB) hx1
      obtain ⟨b', off', rfl, _, _, _, d0, _⟩ := Strs.at1 (hS'.below hB) hx1
      clear hx1 hx2
      have hq0 : (0 : Int) ≤ (q : Int) := by omega
      have hq1 : (q : Int) < (l.length : Int) := by omega
      go_wp2_with fail
      go_quiet (fail)
      clear c0 d0
      go_wp2
      go_roundw
      case rel => exact ⟨q + 1, by omega, by go_num, ⟨hB.os, hB.tape, hB.output, hB.size, hB.block⟩⟩
      case measure => simp [intOf]; omega
    · go_wp2
      go_ret
      exact RV.mk rfl hB
end Go.Proofs.YtjmjilkpckbpeaaGreatDoor

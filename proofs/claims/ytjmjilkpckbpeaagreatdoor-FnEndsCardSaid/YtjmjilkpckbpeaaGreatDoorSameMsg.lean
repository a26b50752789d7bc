/- The laws' own comparison of two lists: of the same lists it says that they are. Condition: at most 2^20 in each. -/
import Derived.Test.YtjmjilkpckbpeaaGreatDoorLB
import Derived.BigQuiet
namespace Go.Proofs.YtjmjilkpckbpeaaGreatDoor
open Go.RowKit

theorem neqMsg (a0 : ByteArray) (a1 : Int) (a2 : ByteArray) (w : World) : (binOp .neq 33 (.agg #[.string a0, .int .i64 a1, .string a2]) (.agg #[.string a0, .int .i64 a1, .string a2])).run Tryz.prog w = .ok (.bool false) w := by
  go_simp
set_option maxHeartbeats 2000000 in
theorem pSameMessages_any (A A' : Option Addr) (c c' lo hi lo' hi' : Nat) (l : List Msg) (w : World) (hl : l.length ≤ 1048576) (hS : Msgs w lo hi A l) (hS' : Msgs w lo' hi' A' l) :
    Calls Tryz.prog 18 #[.slice A l.length c, .slice A' l.length c'] w (RV w (.bool true)) := by
  go_enter Tryz.func18, Tryz.ntmps18
  go_wp2
  go_loopw [13] (fun i wr => ∃ q : Nat, q ≤ l.length ∧ i = .int .i64 q ∧ Below w.heap.size w wr) (fun i _ => l.length - (intOf i).toNat)
  case atStart => exact ⟨0, Nat.zero_le _, rfl, Below.refl _ _⟩
  case round =>
    obtain ⟨q, hq, rfl, hB⟩ := hrel
    by_cases hlt : q < l.length
    · obtain ⟨x, hx1, hx2⟩ := get_lt hlt
      obtain ⟨b, off, rfl, _, _, _, hf⟩ := (hS.below hB).at_ hx1
      have c0 : wr.cell? ⟨b, off + q * 3, none⟩ = some (.string x.f) := (hf 0 _ rfl).1
      have c1 : wr.cell? ⟨b, off + q * 3 + 1, none⟩ = some (.int .i64 x.n) := (hf 1 _ rfl).1
      have c2 : wr.cell? ⟨b, off + q * 3 + 2, none⟩ = some (.string x.b) := (hf 2 _ rfl).1
      clear hf
      obtain ⟨b', off', rfl, _, _, _, hf⟩ := (hS'.below hB).at_ hx1
      have d0 : wr.cell? ⟨b', off' + q * 3, none⟩ = some (.string x.f) := (hf 0 _ rfl).1
      have d1 : wr.cell? ⟨b', off' + q * 3 + 1, none⟩ = some (.int .i64 x.n) := (hf 1 _ rfl).1
      have d2 : wr.cell? ⟨b', off' + q * 3 + 2, none⟩ = some (.string x.b) := (hf 2 _ rfl).1
      clear hf hx1
      have hq0 : (0 : Int) ≤ (q : Int) := by omega
      have hq1 : (q : Int) < (l.length : Int) := by omega
      have hneq := neqMsg x.f x.n x.b
      go_wp2_with fail
      go_quiet (fail)
      clear hneq c0 d0 c1 d1 c2 d2
      go_wp2
      go_roundw
      case rel => exact ⟨q + 1, by omega, by go_num, ⟨hB.os, hB.tape, hB.output, hB.size, hB.block⟩⟩
      case measure => simp [intOf]; omega
    · go_wp2
      go_ret
      exact RV.mk rfl hB
set_option maxHeartbeats 2000000 in
theorem qMessages_any (A A' : Option Addr) (c c' lo hi lo' hi' : Nat) (l : List Msg) (w : World) (hl : l.length ≤ 1048576) (hS : Msgs w lo hi A l) (hS' : Msgs w lo' hi' A' l) :
    Calls Tryz.prog 150 #[.slice A l.length c, .slice A' l.length c'] w (RV w (.bool true)) := by
  go_enter Tryz.func150, Tryz.ntmps150
  go_wp2
  go_loopw [13] (fun i wr => ∃ q : Nat, q ≤ l.length ∧ i = .int .i64 q ∧ Below w.heap.size w wr) (fun i _ => l.length - (intOf i).toNat)
  case atStart => exact ⟨0, Nat.zero_le _, rfl, Below.refl _ _⟩
  case round =>
    obtain ⟨q, hq, rfl, hB⟩ := hrel
    by_cases hlt : q < l.length
    · obtain ⟨x, hx1, hx2⟩ := get_lt hlt
      obtain ⟨b, off, rfl, _, _, _, hf⟩ := (hS.below hB).at_ hx1
      have c0 : wr.cell? ⟨b, off + q * 3, none⟩ = some (.string x.f) := (hf 0 _ rfl).1
      have c1 : wr.cell? ⟨b, off + q * 3 + 1, none⟩ = some (.int .i64 x.n) := (hf 1 _ rfl).1
      have c2 : wr.cell? ⟨b, off + q * 3 + 2, none⟩ = some (.string x.b) := (hf 2 _ rfl).1
      clear hf
      obtain ⟨b', off', rfl, _, _, _, hf⟩ := (hS'.below hB).at_ hx1
      have d0 : wr.cell? ⟨b', off' + q * 3, none⟩ = some (.string x.f) := (hf 0 _ rfl).1
      have d1 : wr.cell? ⟨b', off' + q * 3 + 1, none⟩ = some (.int .i64 x.n) := (hf 1 _ rfl).1
      have d2 : wr.cell? ⟨b', off' + q * 3 + 2, none⟩ = some (.string x.b) := (hf 2 _ rfl).1
      clear hf hx1
      have hq0 : (0 : Int) ≤ (q : Int) := by omega
      have hq1 : (q : Int) < (l.length : Int) := by omega
      have hneq := neqMsg x.f x.n x.b
      go_wp2_with fail
      go_quiet (fail)
      clear hneq c0 d0 c1 d1 c2 d2
      go_wp2
      go_roundw
      case rel => exact ⟨q + 1, by omega, by go_num, ⟨hB.os, hB.tape, hB.output, hB.size, hB.block⟩⟩
      case measure => simp [intOf]; omega
    · go_wp2
      go_ret
      exact RV.mk rfl hB
end Go.Proofs.YtjmjilkpckbpeaaGreatDoor

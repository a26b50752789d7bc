/- The laws' own comparison of two lists: of the same lists it says that they are. Condition: at most 2^20 in each. -/
import Derived.Test.YtjmjilkpckbpeaaGreatDoorLB
import Derived.BigQuiet
namespace Go.Proofs.YtjmjilkpckbpeaaGreatDoor
open Go.RowKit

theorem neqApp (a0 : ByteArray) (a1 : Int) (a2 : Int) (a3 : Int) (a4 : Int) (w : World) : (binOp .neq 73 (.agg #[.string a0, .int .i64 a1, .int .i64 a2, .int .i64 a3, .int .i64 a4]) (.agg #[.string a0, .int .i64 a1, .int .i64 a2, .int .i64 a3, .int .i64 a4])).run Tryz.prog w = .ok (.bool false) w := by
  go_simp
set_option maxHeartbeats 2000000 in
theorem qFleet_any (A A' : Option Addr) (c c' lo hi lo' hi' : Nat) (l : List App) (w : World) (hl : l.length ≤ 1048576) (hS : Apps w lo hi A l) (hS' : Apps w lo' hi' A' l) :
    Calls Tryz.prog 42 #[.slice A l.length c, .slice A' l.length c'] w (RV w (.bool true)) := by
  go_enter Tryz.func42, Tryz.ntmps42
  go_wp2
  go_loopw [13] (fun i wr => ∃ q : Nat, q ≤ l.length ∧ i = .int .i64 q ∧ Below w.heap.size w wr) (fun i _ => l.length - (intOf i).toNat)
  case atStart => exact ⟨0, Nat.zero_le _, rfl, Below.refl _ _⟩
  case round =>
    obtain ⟨q, hq, rfl, hB⟩ := hrel
    by_cases hlt : q < l.length
    · obtain ⟨x, hx1, hx2⟩ := get_lt hlt
      obtain ⟨b, off, rfl, _, _, _, hf⟩ := (hS.below hB).at_ hx1
      have c0 : wr.cell? ⟨b, off + q * 5, none⟩ = some (.string x.nm) := (hf 0 _ rfl).1
      have c1 : wr.cell? ⟨b, off + q * 5 + 1, none⟩ = some (.int .i64 x.kd) := (hf 1 _ rfl).1
      have c2 : wr.cell? ⟨b, off + q * 5 + 2, none⟩ = some (.int .i64 x.nd) := (hf 2 _ rfl).1
      have c3 : wr.cell? ⟨b, off + q * 5 + 3, none⟩ = some (.int .i64 x.cw) := (hf 3 _ rfl).1
      have c4 : wr.cell? ⟨b, off + q * 5 + 4, none⟩ = some (.int .i64 x.st) := (hf 4 _ rfl).1
      clear hf
      obtain ⟨b', off', rfl, _, _, _, hf⟩ := (hS'.below hB).at_ hx1
      have d0 : wr.cell? ⟨b', off' + q * 5, none⟩ = some (.string x.nm) := (hf 0 _ rfl).1
      have d1 : wr.cell? ⟨b', off' + q * 5 + 1, none⟩ = some (.int .i64 x.kd) := (hf 1 _ rfl).1
      have d2 : wr.cell? ⟨b', off' + q * 5 + 2, none⟩ = some (.int .i64 x.nd) := (hf 2 _ rfl).1
      have d3 : wr.cell? ⟨b', off' + q * 5 + 3, none⟩ = some (.int .i64 x.cw) := (hf 3 _ rfl).1
      have d4 : wr.cell? ⟨b', off' + q * 5 + 4, none⟩ = some (.int .i64 x.st) := (hf 4 _ rfl).1
      clear hf hx1
      have hq0 : (0 : Int) ≤ (q : Int) := by omega
      have hq1 : (q : Int) < (l.length : Int) := by omega
      have hneq := neqApp x.nm x.kd x.nd x.cw x.st
      go_wp2_with fail
      go_quiet (fail)
      clear hneq c0 d0 c1 d1 c2 d2 c3 d3 c4 d4
      go_wp2
      go_roundw
      case rel => exact ⟨q + 1, by omega, by go_num, ⟨hB.os, hB.tape, hB.output, hB.size, hB.block⟩⟩
      case measure => simp [intOf]; omega
    · go_wp2
      go_ret
      exact RV.mk rfl hB
end Go.Proofs.YtjmjilkpckbpeaaGreatDoor

/- States of an appliance, as the program and the reference test them, and the reference's text of one. No conditions. -/
import Derived.Test.YtmdmcjhodhphgaaGreatDoorNum
import Derived.Laws.IdiomStrings
namespace Go.Proofs.YtmdmcjhodhphgaaGreatDoor
open Go.RowKit

def stOk (s : Int) : Bool := inB s 0 5
/-- One digit. -/
def digT (n : Int) : ByteArray := ⟨#[UInt8.ofNat (48 + n.toNat)]⟩
theorem back1 (w : World) (n : Int) (h : 0 ≤ n ∧ n ≤ 9) : (convert 22 9 (.slice (some ⟨w.heap.size, 0, none⟩) 1 1)).run Tryz.prog (w.alloc (.cells #[.int .u8 (48 + n)] 5)) = .ok (.string (digT n)) (w.alloc (.cells #[.int .u8 (48 + n)] 5)) :=
  run_convert_bytes_back (P := Tryz.prog) (w.alloc (.cells #[.int .u8 (48 + n)] 5)) 22 9 5 ⟨w.heap.size, 0, none⟩ 1 [UInt8.ofNat (48 + n.toNat)] Tryz.underlying22 Tryz.underlying5 Tryz.underlying9 (fun j hj => by
    cases j with
    | zero =>
      have e : ((UInt8.ofNat (48 + n.toNat)).toNat : Int) = 48 + n := by
        rw [UInt8.toNat_ofNat']
        omega
      show _ = some (Value.int IntKind.u8 (((UInt8.ofNat (48 + n.toNat)).toNat : Nat) : Int))
      rw [e]
      show (w.alloc _).cell? ⟨w.heap.size, 0, none⟩ = _
      rw [World.cell?_alloc_at _ _ _ _ rfl]
      rfl
    | succ j => simp at hj)
theorem l1Num_1 (n : Int) (h0 : 0 ≤ n) (h9 : n ≤ 9) (w : World) : Calls Tryz.prog 65 #[.int .i64 n] w (RV w (.string (digT n))) := by
  have hc := back1 w n ⟨h0, h9⟩
  have h10 : n < 10 := by omega
  have hw8 : IntKind.u8.wrap (48 + n) = 48 + n := IntWalk.u8_in _ (by omega)
  go_enter Tryz.func65, Tryz.ntmps65
  go_wp2
  go_ret
  exact RV.mk rfl (by go_grown)
def stT (n : Int) : ByteArray := ⟨#[115, 116, 97, 116, 101, 32]⟩ ++ digT n
theorem stOk_in {n : Int} (g : stOk n = true) : 0 ≤ n ∧ n ≤ 5 := by simpa [stOk, inB] using g
end Go.Proofs.YtmdmcjhodhphgaaGreatDoor

/- States of an appliance, as the program and the reference test them, and the reference's text of one. No conditions. -/
import Derived.Test.YtianabfehonliaaDoorNum
import Derived.Laws.IdiomStrings
namespace Go.Proofs.YtianabfehonliaaDoor
open Go.RowKit

def stOk (s : Int) : Bool := inB s 0 5
theorem isState_a (s : Int) (w : World) : Calls Tryd.prog 71 #[.int .i64 s] w (RV w (.bool (stOk s))) := by
  go_enter Tryd.func71, Tryd.ntmps71
  go_wp2_with fail
  refine (inside_any _ _ _ _).mono ?_
  rintro e w1 ⟨rfl, hb⟩
  have hB : Below w.heap.size w w1 := Below.on' (by go_grown) hb
  go_wp2
  go_ret
  exact RV.mk rfl hB
theorem apState_a (s : Int) (w : World) : Calls Tryd.prog 84 #[.int .i64 s] w (RV w (.bool (stOk s))) := by
  go_enter Tryd.func84, Tryd.ntmps84
  go_wp2_with fail
  refine (l1In_any _ _ _ _).mono ?_
  rintro e w1 ⟨rfl, hb⟩
  have hB : Below w.heap.size w w1 := Below.on' (by go_grown) hb
  go_wp2
  go_ret
  exact RV.mk rfl hB
/-- One digit. -/
def digT (n : Int) : ByteArray := ⟨#[UInt8.ofNat (48 + n.toNat)]⟩
theorem back1 (w : World) (n : Int) (h : 0 ≤ n ∧ n ≤ 9) : (convert 88 9 (.slice (some ⟨w.heap.size, 0, none⟩) 1 1)).run Tryd.prog (w.alloc (.cells #[.int .u8 (48 + n)] 5)) = .ok (.string (digT n)) (w.alloc (.cells #[.int .u8 (48 + n)] 5)) :=
  run_convert_bytes_back (P := Tryd.prog) (w.alloc (.cells #[.int .u8 (48 + n)] 5)) 88 9 5 ⟨w.heap.size, 0, none⟩ 1 [UInt8.ofNat (48 + n.toNat)] Tryd.underlying88 Tryd.underlying5 Tryd.underlying9 (fun j hj => by
    cases j with
    | zero =>
      have e : ((UInt8.ofNat (48 + n.toNat)).toNat : Int) = 48 + n := by
        rw [UInt8.toNat_ofNat']
        omega
      show _ = some (Value.int IntKind.u8 (((UInt8.ofNat (48 + n.toNat)).toNat : Nat) : Int))
      rw [e]
      show (w.alloc _).cell? ⟨w.heap.size, 0, none⟩ = _
      rw [World.cell?_alloc_at _ _ _ _ rfl]
      rfl
    | succ j => simp at hj)
theorem l1Num_1 (n : Int) (h0 : 0 ≤ n) (h9 : n ≤ 9) (w : World) : Calls Tryd.prog 32 #[.int .i64 n] w (RV w (.string (digT n))) := by
  have hc := back1 w n ⟨h0, h9⟩
  have h10 : n < 10 := by omega
  have hw8 : IntKind.u8.wrap (48 + n) = 48 + n := IntWalk.u8_in _ (by omega)
  go_enter Tryd.func32, Tryd.ntmps32
  go_wp2
  go_ret
  exact RV.mk rfl (by go_grown)
def stT (n : Int) : ByteArray := ⟨#[115, 116, 97, 116, 101, 32]⟩ ++ digT n
theorem stBody_a (n : Int) (h0 : 0 ≤ n) (h9 : n ≤ 9) (w : World) : Calls Tryd.prog 64 #[.int .i64 n] w (RV w (.string (stT n))) := by
  go_enter Tryd.func64, Tryd.ntmps64
  go_wp2_with fail
  refine (l1Num_1 n h0 h9 _).mono ?_
  rintro e w1 ⟨rfl, hb⟩
  have hB : Below w.heap.size w w1 := Below.on' (by go_grown) hb
  go_wp2
  go_ret
  exact RV.mk rfl hB
theorem stOk_in {n : Int} (g : stOk n = true) : 0 ≤ n ∧ n ≤ 5 := by simpa [stOk, inB] using g
end Go.Proofs.YtianabfehonliaaDoor

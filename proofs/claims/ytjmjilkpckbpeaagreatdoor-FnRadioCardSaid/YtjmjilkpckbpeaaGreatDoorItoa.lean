/- strconv.Itoa at every number from 0 on: the reference's numeral. Conditions: the number is at most 2^62; the table of powers lies where the row lists it. -/
import Derived.Test.YtjmjilkpckbpeaaGreatDoorNumT
import Derived.Test.YtjmjilkpckbpeaaGreatDoorLR
import Derived.Test.YtjmjilkpckbpeaaGreatDoorShAll
import Derived.Test.YtjmjilkpckbpeaaGreatDoorDecP
import Derived.Lib.AppendIntMem
namespace Go.Proofs.YtjmjilkpckbpeaaGreatDoor
open Go.RowKit

abbrev TabW (w : World) : Prop := Lib.TabIs Tryz.prog w "internal/strconv.uint64pow10" .u64 Lib.pow10Tab
theorem TabW.below {w w' : World} (h : TabW w) (hb : Below w.heap.size w w') : TabW w' := Joins.tab_stays gPow h hb (Nat.le_refl _)
theorem itoa_numT (k : Nat) : (⟨(Lib.itoa (k : Int)).toArray⟩ : ByteArray) = numT k := by
  apply ByteArray.ext
  apply Array.ext'
  rw [numT_dec]
  simp [itoa_nat]
theorem itoa_any (k : Nat) (hk : k ≤ 4611686018427387904) (w : World) (hT : TabW w) : Calls Tryz.prog 137 #[.int .i64 k] w (RV w (.string (numT k))) := by
  refine (Tryz.strconv_Itoa k (by omega) (by omega) _ hT).mono ?_
  rintro e w2 ⟨rfl, j, os, hw⟩
  rw [itoa_numT]
  exact RV.mk rfl (by rw [hw]; exact Lib.below_grow _ _ (Nat.le_refl _) _ _)
end Go.Proofs.YtjmjilkpckbpeaaGreatDoor

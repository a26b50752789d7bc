/- slices.Contains at ints. Condition: at most 2^20 elements. -/
import Derived.Test.YtianabfehonliaaDoorInts
import Derived.Test.YtianabfehonliaaDoorShAll
namespace Go.Proofs.YtianabfehonliaaDoor
open Go.RowKit

theorem containsInts_any (A : Option Addr) (c : Nat) (l : List Int) (x : Int) (w : World) (lo hi : Nat) (hl : l.length ≤ 1048576) (hS : Ints w lo hi A l) : Calls Tryd.prog 52 #[.slice A l.length c, .int .i64 x] w (RV w (.bool (l.contains x))) := by
  cases l with
  | nil =>
    refine (Tryd.slices_Contains_int_empty A c x w).mono ?_
    rintro e w' ⟨rfl, rfl⟩
    exact RV.mk rfl (Below.refl _ _)
  | cons y r =>
    obtain ⟨b, off, rfl, _⟩ := hS (by simp)
    refine (Tryd.slices_Contains_int b off (y :: r).length c (y :: r) x w (Nat.le_refl _) (by omega) (fun j hj => ?_)).mono ?_
    · obtain ⟨_, _, e, _, _, _, h, _⟩ := Ints.at1 hS (List.getElem?_eq_getElem hj)
      cases e
      rw [h, List.getD_eq_getElem?_getD, List.getElem?_eq_getElem hj]; rfl
    · rintro e w' ⟨rfl, rfl⟩
      rw [List.take_length]
      exact RV.mk rfl (Below.refl _ _)
end Go.Proofs.YtianabfehonliaaDoor

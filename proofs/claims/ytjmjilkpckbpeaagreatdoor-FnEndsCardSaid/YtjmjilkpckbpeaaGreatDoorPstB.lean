/- ParseStateBody: the reference. -/
import Derived.Test.YtjmjilkpckbpeaaGreatDoorLR
namespace Go.Proofs.YtjmjilkpckbpeaaGreatDoor
open Go.RowKit

theorem ParseStateBody_spec (s : ByteArray) (w : World) : Calls Tryz.prog 60 #[.string s] w (PsR w s) := by
  go_enter Tryz.func60, Tryz.ntmps60
  go_wp2_with fail
  refine (stParse_any s _).mono ?_
  rintro e w1 ⟨v, rfl, HS, hb⟩
  by_cases hv : v < 0
  · have HR : Hid (Spells s (-1)) := Lib.hid (by rcases HS.out with ⟨rfl, h⟩ | ⟨h, _⟩; exact .inl ⟨rfl, h⟩; omega)
    go_wp2
    go_ret2
    exact ⟨0, false, rfl, Lib.hid (.inl ⟨rfl, rfl, HR.out⟩), hb⟩
  · go_wp2
    go_ret2
    exact ⟨v, true, rfl, Lib.hid (.inr ⟨rfl, by omega, HS.out⟩), hb⟩
end Go.Proofs.YtjmjilkpckbpeaaGreatDoor

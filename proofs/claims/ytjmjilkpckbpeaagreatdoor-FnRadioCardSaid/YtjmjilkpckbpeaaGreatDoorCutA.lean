/- strings.Cut at a separator of one byte. Conditions: texts of at most 2^20; the library's own variable holds a number. -/
import Derived.Test.YtjmjilkpckbpeaaGreatDoorCutP
import Derived.Test.YtjmjilkpckbpeaaGreatDoorLR
import Derived.Test.YtjmjilkpckbpeaaGreatDoorShAll
import Derived.Test.YtjmjilkpckbpeaaGreatDoorLA
namespace Go.Proofs.YtjmjilkpckbpeaaGreatDoor
open Go.RowKit

theorem size_arr (l : List UInt8) : (⟨l.toArray⟩ : ByteArray).size = l.length := by rw [Lib.size_eq]
theorem cut_any (s : ByteArray) (b : UInt8) (hs : s.size ≤ 1048576) (w : World) (hX : MaxL w) : Calls Tryz.prog 91 #[.string s, .string ⟨#[b]⟩] w fun e w' => ∃ x y ok, e = .returned (.tuple #[.string x, .string y, .bool ok]) ∧ (x.size ≤ s.size ∧ y.size ≤ s.size) ∧ Hid (∀ p r, s.data.toList = p ++ b :: r → b ∉ p → x.data.toList = p ∧ y.data.toList = r) ∧ Below w.heap.size w w' := by
  obtain ⟨m, hm⟩ := hX
  refine (Tryz.strings_Cut s ⟨#[b]⟩ m w (by omega) hm).mono ?_
  rintro e w' ⟨rfl, n, rfl⟩
  refine ⟨_, _, _, rfl, ⟨?_, ?_⟩, Lib.hid (fun p r e hp => ?_), ⟨rfl, rfl, rfl, Nat.le_refl _, fun _ _ => rfl⟩⟩
  · rw [size_arr, Lib.size_eq]; exact cut_len1 _ _
  · rw [size_arr, Lib.size_eq]; exact cut_len2 _ _
  · have : Lib.cut s.data.toList (⟨#[b]⟩ : ByteArray).data.toList = (p, r, true) := by rw [e]; exact cut_first p r hp
    rw [this]
    exact ⟨rfl, rfl⟩
end Go.Proofs.YtjmjilkpckbpeaaGreatDoor

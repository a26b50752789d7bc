/- Bodies of states: made and read on both sides. Conditions: texts of at most 2^20; the listed variables as Said has them. -/
import Derived.Test.YtjmjilkpckbpeaaGreatDoorEndT
import Derived.Test.YtjmjilkpckbpeaaGreatDoorPstB
import Derived.Test.YtjmjilkpckbpeaaGreatDoorLR
namespace Go.Proofs.YtjmjilkpckbpeaaGreatDoor
open Go.RowKit

theorem StateBody_impl_no (n : Int) (g : stOk n = false) (w : World) : Calls Tryz.prog 45 #[.int .i64 n] w (RV w (.tuple #[.string ⟨#[]⟩, .bool false])) := by
  have hc := fun W => g ▸ isState_a n W
  go_enter Tryz.func45, Tryz.ntmps45
  go_wp2_with fail
  refine (hc _).mono ?_
  rintro e w1 ⟨rfl, hb⟩
  have hB : Below w.heap.size w w1 := Below.on' (by go_grown) hb
  go_wp2
  go_ret2
  exact RV.mk rfl hB
theorem StateBody_impl_yes (n : Int) (g : stOk n = true) (w : World) : Calls Tryz.prog 45 #[.int .i64 n] w (RV w (.tuple #[.string (stT n), .bool true])) := by
  have hc := fun W => g ▸ isState_a n W
  have h := stOk_in g
  go_enter Tryz.func45, Tryz.ntmps45
  go_wp2_with fail
  refine (hc _).mono ?_
  rintro e w1 ⟨rfl, hb⟩
  have hB : Below w.heap.size w w1 := Below.on' (by go_grown) hb
  clear hb
  go_wp2_with fail
  refine (stateBody_a n h _).mono ?_
  rintro e w2 ⟨rfl, hb⟩
  have hB2 := Below.on' hB hb
  go_wp2
  go_ret2
  exact RV.mk rfl hB2
/-- A state's body, and whether there is one. -/
def sbT (n : Int) : ByteArray × Bool := if stOk n = true then (stT n, true) else (⟨#[]⟩, false)
theorem sbT_yes {n : Int} {s : ByteArray} {b : Bool} (h : sbT n = (s, b)) (g : b = true) : stOk n = true ∧ s = stT n := by
  subst g
  unfold sbT at h
  split at h
  · rename_i k; injection h with h _; exact ⟨k, h.symm⟩
  · cases h
theorem StateBody_impl (n : Int) (w : World) : Calls Tryz.prog 45 #[.int .i64 n] w (RV w (.tuple #[.string (sbT n).1, .bool (sbT n).2])) := by
  unfold sbT
  cases g : stOk n with
  | true => exact StateBody_impl_yes n g w
  | false => exact StateBody_impl_no n g w
theorem StateBody_spec (n : Int) (w : World) : Calls Tryz.prog 57 #[.int .i64 n] w (RV w (.tuple #[.string (sbT n).1, .bool (sbT n).2])) := by
  unfold sbT
  cases g : stOk n with
  | true => exact StateBody_spec_yes n g w
  | false => exact StateBody_spec_no n g w
theorem ParseStateBody_impl (s : ByteArray) (hlim : s.size ≤ 1048576) (w : World) (hS : Said w) : Calls Tryz.prog 59 #[.string s] w (PsR w s) := by
  go_enter Tryz.func59, Tryz.ntmps59
  go_wp2_with fail
  refine (parseStateBody_any s hlim _ hS).mono ?_
  rintro e w1 ⟨v, b, rfl, HR, hb⟩
  go_wp2
  go_ret2
  exact ⟨v, b, rfl, HR, hb⟩
/-- A text read as a state: two readings are the same. -/
def PsV (s : ByteArray) (v : Int) (b : Bool) : Prop := (b = false ∧ v = 0 ∧ Spells s (-1)) ∨ (b = true ∧ 0 ≤ v ∧ Spells s v)
theorem PsV.same {s : ByteArray} {v v' : Int} {b b' : Bool} (H : PsV s v b) (H' : PsV s v' b') : v' = v ∧ b' = b := by
  rcases H with ⟨rfl, rfl, h⟩ | ⟨rfl, h0, h⟩ <;> rcases H' with ⟨rfl, rfl, h'⟩ | ⟨rfl, h0', h'⟩
  · exact ⟨rfl, rfl⟩
  · have := h.uniq h'; omega
  · have := h.uniq h'; omega
  · exact ⟨h'.uniq h, rfl⟩
theorem PsV.body {n : Int} (g : stOk n = true) : PsV (stT n) n true := .inr ⟨rfl, (stOk_in g).1, .inr ⟨stOk_in g, rfl⟩⟩
theorem PsV.rng {s : ByteArray} {v : Int} {b : Bool} (H : PsV s v b) (g : b = true) : 0 ≤ v ∧ v ≤ 5 := by
  subst g
  rcases H with ⟨h, _⟩ | ⟨_, h0, h⟩
  · cases h
  · rcases h with ⟨h, _⟩ | ⟨h, _⟩
    · omega
    · exact h
end Go.Proofs.YtjmjilkpckbpeaaGreatDoor

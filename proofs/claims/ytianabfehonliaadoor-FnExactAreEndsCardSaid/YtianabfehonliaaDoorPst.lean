/- The body of a state read, by the program and by the reference. Conditions: texts of at most 2^20; the listed variables as Said has them. -/
import Derived.Test.YtianabfehonliaaDoorRn
import Derived.Test.YtianabfehonliaaDoorSt
namespace Go.Proofs.YtianabfehonliaaDoor
open Go.RowKit

/-- v is the state that s spells, or -1. -/
def Spells (s : ByteArray) (v : Int) : Prop := (v = -1 ∧ ∀ n : Int, 0 ≤ n ∧ n ≤ 5 → s.toList ≠ (stT n).toList) ∨ ((0 ≤ v ∧ v ≤ 5) ∧ s.toList = (stT v).toList)
theorem six {n : Int} (h : 0 ≤ n ∧ n ≤ 5) : n = 0 ∨ n = 1 ∨ n = 2 ∨ n = 3 ∨ n = 4 ∨ n = 5 := by omega
theorem stT_inj {n m : Int} (hn : 0 ≤ n ∧ n ≤ 5) (hm : 0 ≤ m ∧ m ≤ 5) (h : (stT n).toList = (stT m).toList) : n = m := by
  rw [Go.ByteArray.toList_eq, Go.ByteArray.toList_eq] at h
  rcases six hn with rfl | rfl | rfl | rfl | rfl | rfl <;> rcases six hm with rfl | rfl | rfl | rfl | rfl | rfl <;> first | rfl | (exfalso; revert h; decide +kernel)
theorem Spells.uniq {s : ByteArray} {v v' : Int} (h : Spells s v) (h' : Spells s v') : v = v' := by
  rcases h with ⟨rfl, h⟩ | ⟨hv, h⟩ <;> rcases h' with ⟨rfl, h'⟩ | ⟨hv', h'⟩
  · rfl
  · exact absurd h' (h _ hv')
  · exact absurd h (h' _ hv)
  · exact stT_inj hv hv' (h.symm.trans h')
theorem stParse_any (s : ByteArray) (w : World) : Calls Tryd.prog 44 #[.string s] w fun e w' => ∃ v, e = .returned (.int .i64 v) ∧ Hid (Spells s v) ∧ Below w.heap.size w w' := by
  go_enter Tryd.func44, Tryd.ntmps44
  go_wp2_with fail
  go_loopw [3] (fun i wr => ∃ k : Nat, k ≤ 6 ∧ i = .int .i64 k ∧ Hid (∀ n : Int, 0 ≤ n ∧ n < k → s.toList ≠ (stT n).toList) ∧ Below w.heap.size w wr) (fun i _ => 6 - (intOf i).toNat)
  case atStart => exact ⟨0, Nat.zero_le _, rfl, Lib.hid (fun n hn => by omega), Below.refl _ _⟩
  case round =>
    obtain ⟨k, hk, rfl, HX, hB⟩ := hrel
    by_cases hlt : k ≤ 5
    · have hlt' : (k : Int) ≤ 5 := by omega
      go_wp2_with fail
      refine (stBody_a k (by omega) (by omega) _).mono ?_
      rintro e w1 ⟨rfl, hb⟩
      have hB1 := Below.on' hB hb
      by_cases hq : s.toList = (stT k).toList
      · have HS : Hid (Spells s k) := Lib.hid (.inr ⟨⟨by omega, hlt'⟩, hq⟩)
        go_wp2
        go_ret
        exact ⟨k, rfl, HS, hB1⟩
      · have HX' : Hid (∀ n : Int, 0 ≤ n ∧ n < ((k + 1 : Nat) : Int) → s.toList ≠ (stT n).toList) := Lib.hid (fun n hn => by
          by_cases h : n < k
          · exact HX.out n ⟨hn.1, h⟩
          · obtain rfl : n = k := by omega
            exact hq)
        have hq' : (s.toList == (stT k).toList) = false := by simpa using hq
        clear hq HX
        go_wp2
        go_roundw
        case rel => exact ⟨k + 1, by omega, by go_num, HX', hB1⟩
        case measure => simp [intOf]; omega
    · obtain rfl : k = 6 := by omega
      have HS : Hid (Spells s (-1)) := Lib.hid (.inl ⟨rfl, fun n hn => HX.out n ⟨hn.1, by omega⟩⟩)
      clear HX
      go_wp2
      go_ret
      exact ⟨-1, rfl, HS, hB⟩
/-- What reading a state's body returns. -/
def PsR (w : World) (s : ByteArray) (e : Ending) (w' : World) : Prop := ∃ v b, e = .returned (.tuple #[.int .i64 v, .bool b]) ∧ Hid ((b = false ∧ v = 0 ∧ Spells s (-1)) ∨ (b = true ∧ 0 ≤ v ∧ Spells s v)) ∧ Below w.heap.size w w'
end Go.Proofs.YtianabfehonliaaDoor

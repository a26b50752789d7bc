/- Reading a number: strconv.Atoi at every string, and the program's readNumber. Conditions: texts of at most 2^20; the two sentinels and the table of powers lie where the row lists them. -/
import Derived.Test.YtmdmcjhodhphgaaGreatDoorShAll
import Derived.Test.YtmdmcjhodhphgaaGreatDoorNum
import Derived.Test.YtmdmcjhodhphgaaGreatDoorTab
import Derived.Lib.AppendIntMem
namespace Go.Proofs.YtmdmcjhodhphgaaGreatDoor
open Go.RowKit

/-- What the listed variables give: the two sentinels hold interface values, the table of powers holds the powers. -/
structure Said (w : World) : Prop where
  s0 : ∃ t p, w.cell? ⟨2, 0, none⟩ = some (.iface t p)
  s1 : ∃ t p, w.cell? ⟨3, 0, none⟩ = some (.iface t p)
  tab : Lib.TabIs Tryz.prog w "internal/strconv.uint64pow10" .u64 Lib.pow10Tab
theorem Said.below {w w' : World} (h : Said w) (hb : Below w.heap.size w w') : Said w' := by
  obtain ⟨t, p, h0⟩ := h.s0
  obtain ⟨t', p', h1⟩ := h.s1
  exact ⟨⟨t, p, keep hb h0⟩, ⟨t', p', keep hb h1⟩, Joins.tab_stays gPow h.tab hb (Nat.le_refl _)⟩
theorem atoi_no (s : ByteArray) (hlim : s.size ≤ 1048576) (w : World) (hS : Said w) (h1 : ∀ v, Lib.atoiAll s.data.toList ≠ .ok v) :
    Calls Tryz.prog 109 #[.string s] w fun e w' => ∃ v p, e = .returned (.tuple #[.int .i64 v, .iface 125 p]) ∧ Below w.heap.size w w' := by
  obtain ⟨t, p, c0⟩ := hS.s0
  obtain ⟨t', p', c1⟩ := hS.s1
  cases h : Lib.atoiAll s.data.toList with
  | ok v => exact absurd h (h1 v)
  | range =>
    refine (Tryz.strconv_Atoi_range s (by omega) h _ w c1 (.inr ⟨_, _, rfl⟩)).mono ?_
    rintro e w' ⟨N, rfl, _, _, hb⟩
    exact ⟨_, _, rfl, hb⟩
  | _ =>
    refine (Any.strconv_Atoi_syntax Tryz.laysC172 s (by omega) h _ w c0 (.inr ⟨_, _, rfl⟩)).mono ?_
    rintro e w' ⟨N, rfl, _, _, hb⟩
    exact ⟨_, _, rfl, hb⟩
theorem readNumber_any (s : ByteArray) (hlim : s.size ≤ 1048576) (w : World) (hS : Said w) :
    Calls Tryz.prog 95 #[.string s] w fun e w' => ∃ v b, e = .returned (.tuple #[.int .i64 v, .bool b]) ∧ (b = true → Lib.atoiAll s.data.toList = .ok v ∧ s.data.toList = Lib.itoa v) ∧ (∀ n, Lib.atoiAll s.data.toList = .ok n → s.data.toList = Lib.itoa n → b = true ∧ v = n) ∧ Below w.heap.size w w' := by
  by_cases h1 : ∀ v, Lib.atoiAll s.data.toList ≠ .ok v
  · go_enter Tryz.func95, Tryz.ntmps95
    go_wp2_with fail
    refine (atoi_no s hlim _ hS h1).mono ?_
    rintro e w1 ⟨v, p, rfl, hb⟩
    replace h1 := Lib.hid h1
    go_wp2
    go_ret2
    exact ⟨v, false, rfl, fun h => (by cases h), fun n hn _ => absurd hn (h1.out n), hb⟩
  · obtain ⟨v, hv⟩ : ∃ v, Lib.atoiAll s.data.toList = .ok v := by
      cases h : Lib.atoiAll s.data.toList with
      | ok v => exact ⟨v, rfl⟩
      | _ => exact absurd (fun v h' => by rw [h] at h'; cases h') h1
    obtain ⟨bd0, bd1⟩ := Lib.atoiAll_bounds hv
    replace hv := Lib.hid hv
    clear h1
    go_enter Tryz.func95, Tryz.ntmps95
    go_wp2_with fail
    refine (Tryz.strconv_Atoi_ok s (by omega) v hv.out _).mono ?_
    rintro e w1 ⟨rfl, hw⟩
    have hb : Below w.heap.size w w1 := by
      rcases hw with rfl | ⟨t, rfl⟩
      · exact Below.refl _ _
      · exact Lib.bytesWorld_below _ _ _
    have hS1 := hS.below hb
    clear hw
    go_wp2_with fail
    refine (Tryz.strconv_Itoa v bd0 bd1 _ hS1.tab).mono ?_
    rintro e w2 ⟨rfl, k, os, hw⟩
    have hb2 : Below w1.heap.size w1 w2 := by rw [hw]; exact Lib.below_grow _ _ (Nat.le_refl _) _ _
    clear hw
    have hB2 := Below.on' hb hb2
    obtain ⟨T, hT⟩ : ∃ T : ByteArray, Hid (T = ⟨(Lib.itoa v).toArray⟩) := ⟨_, Lib.hid rfl⟩
    rw [← hT.out]
    have hTl : Hid (T.data.toList = Lib.itoa v) := Lib.hid (by rw [hT.out])
    by_cases hq : T.toList = s.toList
    · have hE : Hid (s.data.toList = Lib.itoa v) := Lib.hid (by rw [← hTl.out, ← Go.ByteArray.toList_eq, ← Go.ByteArray.toList_eq, hq])
      go_wp2
      go_ret2
      exact ⟨v, true, rfl, fun _ => ⟨hv.out, hE.out⟩, fun n hn _ => ⟨rfl, by have := hv.out.symm.trans hn; injection this⟩, hB2⟩
    · have hE : Hid (s.data.toList ≠ Lib.itoa v) := Lib.hid (fun h => hq (by rw [Go.ByteArray.toList_eq, Go.ByteArray.toList_eq, hTl.out, h]))
      have hq' : (T.toList == s.toList) = false := by simpa using hq
      go_wp2
      go_ret2
      exact ⟨v, false, rfl, fun h => (by cases h), fun n hn hs => absurd (by have := hv.out.symm.trans hn; injection this with this; rw [this]; exact hs) hE.out, hB2⟩
end Go.Proofs.YtmdmcjhodhphgaaGreatDoor

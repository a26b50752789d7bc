/- The body of a state read by the program. Conditions: texts of at most 2^20; the listed variables as Said has them. -/
import Derived.Test.YtianabfehonliaaDoorPst
namespace Go.Proofs.YtianabfehonliaaDoor
open Go.RowKit

def preS : ByteArray := ⟨#[115, 116, 97, 116, 101, 32]⟩
theorem stT_data (n : Int) : (stT n).data.toList = preS.data.toList ++ (digT n).data.toList := by unfold stT preS; simp [ByteArray.data_append]
theorem dig_ok {n : Int} (h : 0 ≤ n ∧ n ≤ 5) : Lib.atoiAll (digT n).data.toList = .ok n ∧ (digT n).data.toList = Lib.itoa n := by
  rcases six h with rfl | rfl | rfl | rfl | rfl | rfl <;> exact ⟨by decide +kernel, by decide +kernel⟩
theorem hasPreS {l p : List UInt8} (h : Lib.hasPrefix l p = true) : l = p ++ Lib.trimPrefix l p := by
  obtain ⟨r, rfl⟩ := List.isPrefixOf_iff_prefix.1 h
  rw [Lib.trimPrefix, if_pos h, List.drop_left]
theorem preS_has (p r : List UInt8) : Lib.hasPrefix (p ++ r) p = true := List.isPrefixOf_iff_prefix.2 ⟨r, rfl⟩
theorem preS_trim (p r : List UInt8) : Lib.trimPrefix (p ++ r) p = r := by rw [Lib.trimPrefix, if_pos (preS_has p r), List.drop_left]
/-- s spells n: so its rest behind the word is n's digit. -/
theorem of_spell {s : ByteArray} {n : Int} (h : s.toList = (stT n).toList) : Lib.hasPrefix s.data.toList preS.data.toList = true ∧ Lib.trimPrefix s.data.toList preS.data.toList = (digT n).data.toList := by
  rw [Go.ByteArray.toList_eq, Go.ByteArray.toList_eq, stT_data] at h
  rw [h]
  exact ⟨preS_has _ _, preS_trim _ _⟩
theorem parseStateBody_any (s : ByteArray) (hlim : s.size ≤ 1048576) (w : World) (hS : Said w) : Calls Tryd.prog 51 #[.string s] w (PsR w s) := by
  obtain ⟨T, hT⟩ : ∃ T : ByteArray, Hid (T = ⟨(Lib.trimPrefix s.data.toList preS.data.toList).toArray⟩) := ⟨_, Lib.hid rfl⟩
  have hTd : Hid (T.data.toList = Lib.trimPrefix s.data.toList preS.data.toList) := Lib.hid (by rw [hT.out])
  have hTl : T.size ≤ 1048576 := by
    rw [Lib.size_eq, hTd.out, Lib.trimPrefix]
    rw [Lib.size_eq] at hlim
    split
    · rw [List.length_drop]; omega
    · exact hlim
  obtain ⟨B, hB0⟩ : ∃ B : Bool, Hid (B = Lib.hasPrefix s.data.toList preS.data.toList) := ⟨_, Lib.hid rfl⟩
  have hc : ∀ W, Calls Tryd.prog 70 #[.string s, .string ⟨#[115, 116, 97, 116, 101, 32]⟩] W fun e w' => e = .returned (.tuple #[.string T, .bool B]) ∧ w' = W := fun W => by
    have := Tryd.strings_CutPrefix s preS W
    rw [← hT.out, ← hB0.out] at this
    exact this
  go_enter Tryd.func51, Tryd.ntmps51
  go_wp2_with fail
  refine (hc _).mono ?_
  rintro e w1 ⟨rfl, rfl⟩
  clear hc
  go_wp2_with fail
  refine (readNumber_any T hTl _ hS).mono ?_
  rintro e w2 ⟨v, b, rfl, h1, h2, hb⟩
  have H : Hid ((b = true → Lib.atoiAll T.data.toList = .ok v ∧ T.data.toList = Lib.itoa v) ∧ (∀ n, Lib.atoiAll T.data.toList = .ok n → T.data.toList = Lib.itoa n → b = true ∧ v = n)) := Lib.hid ⟨h1, h2⟩
  clear h1 h2
  -- if s spells n, all three tests hold
  have HN : Hid (∀ n : Int, 0 ≤ n ∧ n ≤ 5 → s.toList = (stT n).toList → B = true ∧ b = true ∧ v = n) := Lib.hid (fun n hn hs => by
    obtain ⟨p1, p2⟩ := of_spell hs
    have hd : T.data.toList = (digT n).data.toList := hTd.out.trans p2
    obtain ⟨q1, q2⟩ := dig_ok hn
    obtain ⟨r1, r2⟩ := H.out.2 n (by rw [hd]; exact q1) (by rw [hd]; exact q2)
    exact ⟨hB0.out.trans p1, r1, r2⟩)
  have HY : Hid (B = true → b = true → 0 ≤ v ∧ v ≤ 5 → Spells s v) := Lib.hid (fun hB hb hv => by
    refine .inr ⟨hv, ?_⟩
    obtain ⟨_, hi⟩ := H.out.1 hb
    have hs := hasPreS (hB0.out.symm.trans hB)
    rw [Go.ByteArray.toList_eq, Go.ByteArray.toList_eq, stT_data, (dig_ok hv).2, ← hi, hTd.out]
    exact hs)
  clear H
  cases B with
  | false =>
    have HR : Hid (Spells s (-1)) := Lib.hid (.inl ⟨rfl, fun n hn hs => by have := (HN.out n hn hs).1; cases this⟩)
    clear HN HY
    go_wp2
    go_ret2
    exact ⟨0, false, rfl, Lib.hid (.inl ⟨rfl, rfl, HR.out⟩), hb⟩
  | true =>
    cases b with
    | false =>
      have HR : Hid (Spells s (-1)) := Lib.hid (.inl ⟨rfl, fun n hn hs => by have := (HN.out n hn hs).2.1; cases this⟩)
      clear HN HY
      go_wp2
      go_ret2
      exact ⟨0, false, rfl, Lib.hid (.inl ⟨rfl, rfl, HR.out⟩), hb⟩
    | true =>
      go_wp2_with fail
      refine (isState_a v _).mono ?_
      rintro e w3 ⟨rfl, hb3⟩
      have hB3 := Below.on' hb hb3
      by_cases g : stOk v = true
      · have hv := stOk_in g
        have HR := Lib.hid (HY.out (by trivial) (by trivial) hv)
        rw [g]
        clear HN HY
        go_wp2
        go_ret2
        exact ⟨v, true, rfl, Lib.hid (.inr ⟨rfl, hv.1, HR.out⟩), hB3⟩
      · have HR : Hid (Spells s (-1)) := Lib.hid (.inl ⟨rfl, fun n hn hs => by
          obtain ⟨_, _, rfl⟩ := HN.out n hn hs
          exact g (by simp [stOk, inB, hn])⟩)
        have g' : stOk v = false := by simpa using g
        rw [g']
        clear HN HY g
        go_wp2
        go_ret2
        exact ⟨0, false, rfl, Lib.hid (.inl ⟨rfl, rfl, HR.out⟩), hB3⟩
end Go.Proofs.YtianabfehonliaaDoor

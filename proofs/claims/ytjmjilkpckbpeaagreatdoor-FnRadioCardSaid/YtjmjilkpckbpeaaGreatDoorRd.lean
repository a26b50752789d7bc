/- The reference's reading: a text split at a byte, a numeral read. Condition: texts of at most 2^20. -/
import Derived.Test.YtjmjilkpckbpeaaGreatDoorCutP
import Derived.Test.YtjmjilkpckbpeaaGreatDoorLA
import Derived.BigQuiet
namespace Go.Proofs.YtjmjilkpckbpeaaGreatDoor
open Go.RowKit

theorem ext_to {s : ByteArray} {k : Nat} : (s.extract 0 k).data.toList = s.data.toList.take k := Lib.extract_from_zero s k
theorem ext_from {s : ByteArray} {k : Nat} : (s.extract k s.size).data.toList = s.data.toList.drop k := Lib.extract_to_end s k
theorem byte_at {s : ByteArray} {k : Nat} (h : k < s.size) : s.data.toList[k]? = some s[k] := by rw [List.getElem?_eq_getElem (by simpa using h)]; rfl
theorem byte_ne {c b : UInt8} (h : ¬ (c.toNat : Int) = b.toNat) : c ≠ b := by rintro rfl; exact h rfl
theorem byte_eq {c b : UInt8} (h : (c.toNat : Int) = b.toNat) : c = b := UInt8.toNat_inj.1 (by omega)
theorem cut_at {l : List UInt8} {k : Nat} {b : UInt8} (h : l[k]? = some b) : l = l.take k ++ b :: l.drop (k + 1) := by
  obtain ⟨h1, rfl⟩ := List.getElem?_eq_some_iff.1 h
  rw [← List.drop_eq_getElem_cons h1, List.take_append_drop]
set_option maxRecDepth 100000 in
set_option maxHeartbeats 4000000 in
theorem l1Read_any (s : ByteArray) (hs : s.size ≤ 1048576) (w : World) : Calls Tryz.prog 94 #[.string s] w fun e w' => ∃ v, e = .returned (.int .i64 v) ∧ Hid (∀ n : Nat, n < 1000000 → s.data.toList = Lib.decDigits n → v = n) ∧ Below w.heap.size w w' := by
  have no : ∀ {v : Int}, (∀ n : Nat, n < 1000000 → s.data.toList ≠ Lib.decDigits n) → Hid (∀ n : Nat, n < 1000000 → s.data.toList = Lib.decDigits n → v = n) := fun h => Lib.hid (fun n hn e => absurd e (h n hn))
  by_cases hz : 1 ≤ s.size ∧ s.size ≤ 6
  rotate_left
  · have hin : inB s.size 1 6 = false := by simp [inB]; omega
    have HN : Hid (∀ n : Nat, n < 1000000 → s.data.toList = Lib.decDigits n → (-1 : Int) = n) := no (fun n hn e => hz (by
      rw [Lib.size_eq, e]
      exact ⟨dec_pos_len n, dec_len (by omega) hn⟩))
    have hc := fun W => hin ▸ l1In_any s.size 1 6 W
    clear no
    go_enter Tryz.func94, Tryz.ntmps94
    go_wp2_with fail
    refine (hc _).mono ?_
    rintro e w1 ⟨rfl, hb⟩
    have hB : Below w.heap.size w w1 := Below.on' (by go_grown) hb
    go_wp2
    go_ret
    exact ⟨_, rfl, HN, hB⟩
  have hin : inB s.size 1 6 = true := by simp [inB]; omega
  have hc := fun W => hin ▸ l1In_any s.size 1 6 W
  have h0 : 0 < s.size := by omega
  have HA0 := Lib.hid (byte_at h0)
  by_cases hq : (s[0].toNat : Int) = 48 ∧ 1 < s.size
  · obtain ⟨hq0, hq1⟩ := hq
    have HN : Hid (∀ n : Nat, n < 1000000 → s.data.toList = Lib.decDigits n → (-1 : Int) = n) := no (fun n hn e => by
      have h1 := HA0.out
      rw [byte_eq (c := s[0]) (b := 48) (by simpa using hq0), e] at h1
      have hn1 : 1 ≤ n := by
        rcases Nat.eq_zero_or_pos n with rfl | h
        · rw [Lib.size_eq, e, dec_small (by decide)] at hq1
          simp at hq1
        · exact h
      refine dec_head hn1 ?_
      rw [List.head?_eq_getElem?]
      exact h1)
    have hq2 : (1 : Int) < s.size := by omega
    clear no HA0 hin
    go_enter Tryz.func94, Tryz.ntmps94
    go_wp2_with fail
    refine (hc _).mono ?_
    rintro e w1 ⟨rfl, hb⟩
    have hB : Below w.heap.size w w1 := Below.on' (by go_grown) hb
    go_wp2
    go_ret
    exact ⟨_, rfl, HN, hB⟩
  -- the digits
  have main : ∀ (w1 : World), Below w.heap.size w w1 → True := fun _ _ => trivial
  clear main HA0
  have hz2 := hz.2
  have p6 : ∀ k, k ≤ 6 → (10 : Int) ^ k ≤ 1000000 := fun k hk => by
    rcases (by omega : k = 0 ∨ k = 1 ∨ k = 2 ∨ k = 3 ∨ k = 4 ∨ k = 5 ∨ k = 6) with rfl | rfl | rfl | rfl | rfl | rfl | rfl <;> decide
  replace p6 := Lib.hid p6
  by_cases hq0 : (s[0].toNat : Int) = 48
  · have hq3 : ¬ (1 : Int) < s.size := by have := fun h => hq ⟨hq0, h⟩; omega
    clear hq
    go_enter Tryz.func94, Tryz.ntmps94
    go_wp2_with fail
    refine (hc _).mono ?_
    rintro e w1 ⟨rfl, hb⟩
    have hB1 : Below w.heap.size w w1 := Below.on' (by go_grown) hb
    clear hb hc hin
    go_wp2_with fail
    go_loopw [3, 4] (fun v i wr => ∃ (k : Nat) (u : Nat), k ≤ s.size ∧ i = .int .i64 k ∧ v = .int .i64 u ∧ u ≤ 1000000 ∧ Hid (u = valD (s.data.toList.take k) ∧ (u : Int) < 10 ^ k) ∧ Below w.heap.size w wr) (fun _ i _ => s.size - (intOf i).toNat)
    case atStart => exact ⟨0, 0, Nat.zero_le _, rfl, rfl, by omega, Lib.hid ⟨rfl, by decide⟩, hB1⟩
    case round =>
      obtain ⟨k, u, hk, rfl, rfl, hu, HU, hB⟩ := hrel
      by_cases hlt : k < s.size
      · have HA := Lib.hid (byte_at hlt)
        by_cases hd : 48 ≤ (s[k].toNat : Int) ∧ (s[k].toNat : Int) ≤ 57
        · obtain ⟨c, hcv⟩ : ∃ c : Nat, (s[k].toNat : Int) = 48 + c := ⟨s[k].toNat - 48, by omega⟩
          have HU' : Hid (10 * u + c = valD (s.data.toList.take (k + 1)) ∧ ((10 * u + c : Nat) : Int) < 10 ^ (k + 1)) := Lib.hid (by
            obtain ⟨h1, h2⟩ := HU.out
            refine ⟨?_, ?_⟩
            · rw [take_snoc HA.out, valD_snoc, ← h1]; omega
            · rw [Int.pow_succ]; omega)
          have hu' : 10 * u + c ≤ 1000000 := by
            have h1 := HU'.out.2
            have h2 := p6.out (k + 1) (by omega)
            omega
          obtain ⟨hd0, hd1⟩ := hd
          clear HA HU
          rw [hcv] at hd0 hd1
          have hc9 : c ≤ 9 := by omega
          have e1 : IntKind.u8.wrap ((48 : Int) + c - 48) = c := by rw [show (48 : Int) + c - 48 = c by omega]; exact IntWalk.u8_in _ (by omega)
          have e2 : IntKind.i64.wrap (c : Int) = c := IntWalk.i64_in _ (by omega)
          have e3 : IntKind.i64.wrap (10 * (u : Int)) = 10 * (u : Int) := IntWalk.i64_in _ (by omega)
          have e4 : IntKind.i64.wrap (10 * (u : Int) + c) = 10 * (u : Int) + c := IntWalk.i64_in _ (by omega)
          go_wp2
          go_roundw
          case rel => exact ⟨k + 1, 10 * u + c, by omega, by go_num, by first | rfl | (refine vint ?_; simp [*]; done) | (refine vint ?_; simp [*]; omega), hu', HU', hB⟩
          case measure => simp [intOf]; omega
        · have HN : Hid (∀ n : Nat, n < 1000000 → s.data.toList = Lib.decDigits n → (-1 : Int) = n) := no (fun n hn e => hd (by
            have := dec_bytes n s[k] (by rw [← e]; exact List.mem_of_getElem? HA.out)
            omega))
          clear HA HU
          rcases (by omega : (s[k].toNat : Int) < 48 ∨ 57 < (s[k].toNat : Int)) with hd1 | hd1
          · go_wp2
            go_ret
            exact ⟨_, rfl, HN, hB⟩
          · have hd2 : ¬ (s[k].toNat : Int) < 48 := by omega
            go_wp2
            go_ret
            exact ⟨_, rfl, HN, hB⟩
      · have HN : Hid (∀ n : Nat, n < 1000000 → s.data.toList = Lib.decDigits n → (u : Int) = n) := Lib.hid (fun n hn e => by
          have := HU.out.1
          rw [List.take_of_length_le (by rw [← Lib.size_eq]; omega), e, valD_dec] at this
          rw [this])
        clear HU
        go_wp2
        go_ret
        exact ⟨_, rfl, HN, hB⟩
  · clear hq
    go_enter Tryz.func94, Tryz.ntmps94
    go_wp2_with fail
    refine (hc _).mono ?_
    rintro e w1 ⟨rfl, hb⟩
    have hB1 : Below w.heap.size w w1 := Below.on' (by go_grown) hb
    clear hb hc hin
    go_wp2_with fail
    go_loopw [3, 4] (fun v i wr => ∃ (k : Nat) (u : Nat), k ≤ s.size ∧ i = .int .i64 k ∧ v = .int .i64 u ∧ u ≤ 1000000 ∧ Hid (u = valD (s.data.toList.take k) ∧ (u : Int) < 10 ^ k) ∧ Below w.heap.size w wr) (fun _ i _ => s.size - (intOf i).toNat)
    case atStart => exact ⟨0, 0, Nat.zero_le _, rfl, rfl, by omega, Lib.hid ⟨rfl, by decide⟩, hB1⟩
    case round =>
      obtain ⟨k, u, hk, rfl, rfl, hu, HU, hB⟩ := hrel
      by_cases hlt : k < s.size
      · have HA := Lib.hid (byte_at hlt)
        by_cases hd : 48 ≤ (s[k].toNat : Int) ∧ (s[k].toNat : Int) ≤ 57
        · obtain ⟨c, hcv⟩ : ∃ c : Nat, (s[k].toNat : Int) = 48 + c := ⟨s[k].toNat - 48, by omega⟩
          have HU' : Hid (10 * u + c = valD (s.data.toList.take (k + 1)) ∧ ((10 * u + c : Nat) : Int) < 10 ^ (k + 1)) := Lib.hid (by
            obtain ⟨h1, h2⟩ := HU.out
            refine ⟨?_, ?_⟩
            · rw [take_snoc HA.out, valD_snoc, ← h1]; omega
            · rw [Int.pow_succ]; omega)
          have hu' : 10 * u + c ≤ 1000000 := by
            have h1 := HU'.out.2
            have h2 := p6.out (k + 1) (by omega)
            omega
          obtain ⟨hd0, hd1⟩ := hd
          clear HA HU
          rw [hcv] at hd0 hd1
          have hc9 : c ≤ 9 := by omega
          have e1 : IntKind.u8.wrap ((48 : Int) + c - 48) = c := by rw [show (48 : Int) + c - 48 = c by omega]; exact IntWalk.u8_in _ (by omega)
          have e2 : IntKind.i64.wrap (c : Int) = c := IntWalk.i64_in _ (by omega)
          have e3 : IntKind.i64.wrap (10 * (u : Int)) = 10 * (u : Int) := IntWalk.i64_in _ (by omega)
          have e4 : IntKind.i64.wrap (10 * (u : Int) + c) = 10 * (u : Int) + c := IntWalk.i64_in _ (by omega)
          go_wp2
          go_roundw
          case rel => exact ⟨k + 1, 10 * u + c, by omega, by go_num, by first | rfl | (refine vint ?_; simp [*]; done) | (refine vint ?_; simp [*]; omega), hu', HU', hB⟩
          case measure => simp [intOf]; omega
        · have HN : Hid (∀ n : Nat, n < 1000000 → s.data.toList = Lib.decDigits n → (-1 : Int) = n) := no (fun n hn e => hd (by
            have := dec_bytes n s[k] (by rw [← e]; exact List.mem_of_getElem? HA.out)
            omega))
          clear HA HU
          rcases (by omega : (s[k].toNat : Int) < 48 ∨ 57 < (s[k].toNat : Int)) with hd1 | hd1
          · go_wp2
            go_ret
            exact ⟨_, rfl, HN, hB⟩
          · have hd2 : ¬ (s[k].toNat : Int) < 48 := by omega
            go_wp2
            go_ret
            exact ⟨_, rfl, HN, hB⟩
      · have HN : Hid (∀ n : Nat, n < 1000000 → s.data.toList = Lib.decDigits n → (u : Int) = n) := Lib.hid (fun n hn e => by
          have := HU.out.1
          rw [List.take_of_length_le (by rw [← Lib.size_eq]; omega), e, valD_dec] at this
          rw [this])
        clear HU
        go_wp2
        go_ret
        exact ⟨_, rfl, HN, hB⟩
theorem ext_mid {s : ByteArray} {a b : Nat} : (s.extract a b).data.toList = (s.data.toList.drop a).take (b - a) := by
  rw [ByteArray.data_extract, Array.toList_extract, List.extract_eq_take_drop]
set_option maxRecDepth 100000 in
set_option maxHeartbeats 4000000 in
theorem l1Split_any (s : ByteArray) (b : UInt8) (hs : s.size ≤ 1048576) (w : World) : Calls Tryz.prog 93 #[.string s, .int .u8 (b.toNat : Int)] w fun e w' => ∃ A c L, e = .returned (.slice A L.length c) ∧ Own Strs.cells 1 9 w' w.heap.size A c L ∧ (L.length ≤ s.size + 1 ∧ ∀ x ∈ L, x.size ≤ s.size) ∧ Hid (L.map (fun x => x.data.toList) = splitS b [] s.data.toList) ∧ Below w.heap.size w w' := by
  obtain ⟨i0, hi0, hz0, hz1, hz2⟩ := info_parts Strs.info
  go_enter Tryz.func93, Tryz.ntmps93
  go_wp2_with fail
  go_loopw [5, 6, 7] (fun o f i wr => ∃ (k fr : Nat) (A : Option Addr) (c : Nat) (r : List ByteArray), k ≤ s.size ∧ fr ≤ k ∧ i = .int .i64 k ∧ f = .int .i64 fr ∧ o = .slice A r.length c ∧ r.length ≤ k ∧ (∀ x ∈ r, x.size ≤ s.size) ∧ Own Strs.cells 1 9 wr w.heap.size A c r ∧ Hid (r.map (fun x => x.data.toList) ++ splitS b [] (s.data.toList.drop fr) = splitS b [] s.data.toList ∧ b ∉ (s.data.toList.drop fr).take (k - fr)) ∧ Below w.heap.size w wr) (fun _ _ i _ => s.size - (intOf i).toNat)
  case atStart => exact ⟨0, 0, none, 0, [], Nat.zero_le _, Nat.le_refl _, rfl, rfl, rfl, Nat.zero_le _, by simp, Own.nil_, Lib.hid ⟨rfl, by simp⟩, Below.refl _ _⟩
  case round =>
    obtain ⟨k, fr, A, c, r, hk, hfr, rfl, rfl, rfl, hr, hrs, hO, HF, hB⟩ := hrel
    have hz := hB.size
    by_cases hlt : k < s.size
    · have HA : Hid ((s.data.toList.drop fr)[k - fr]? = some s[k]) := Lib.hid (by rw [List.getElem?_drop, show fr + (k - fr) = k by omega]; exact byte_at hlt)
      by_cases hq : (s[k].toNat : Int) = b.toNat
      · have HN : Hid ((r ++ [s.extract fr k]).map (fun x => x.data.toList) ++ splitS b [] (s.data.toList.drop (k + 1)) = splitS b [] s.data.toList) := Lib.hid (by
          obtain ⟨h1, h2⟩ := HF.out
          have h3 := HA.out
          rw [byte_eq hq] at h3
          have h4 := cut_at h3
          rw [List.drop_drop, show fr + (k - fr + 1) = k + 1 by omega] at h4
          have h5 : splitS b [] (s.data.toList.drop fr) = ((s.data.toList.drop fr).take (k - fr) ++ []) :: splitS b [] (s.data.toList.drop (k + 1)) := by
            rw [← splitS_cut [] _ h2, ← h4]
          rw [← h1, h5, List.map_append, List.append_nil]
          simp)
        have hx1 : (s.extract fr k).size ≤ s.size := by rw [ByteArray.size_extract]; omega
        have hw1 : IntKind.i64.wrap ((k : Int) + 1) = (k : Int) + 1 := IntWalk.i64_in _ (by omega)
        clear HA HF
        go_wp2_with (at_builtin; refine wpList_append_one _ rfl (.tmp 19) (.tmp 24) _ rfl i0 _ _ Tryz.underlying60 hi0 hz0 hz1 hz2 rfl (by omega) Strs.len Strs.one (s.extract fr k) _ (hO.alloc _) rfl rfl (new_cells _ _ _ _ rfl) (by unfold maxLen; omega) (by omega) (by simp; omega) ?_; intro A2 c2 wb L hL hO2 hb2)
        have hlen : L.length = r.length + 1 := by rw [hL.out]; simp
        have hlen2 : L.length ≤ k + 1 := by omega
        have hLs : ∀ x ∈ L, x.size ≤ s.size := by
          rw [hL.out]
          intro x hx
          rcases List.mem_append.1 hx with hx | hx
          · exact hrs x hx
          · obtain rfl := List.mem_singleton.1 hx; exact hx1
        clear hlen
        have hBc : Below w.heap.size w wb := Below.trans (by go_grown) hb2
        clear hb2 hO
        go_roundw
        case rel =>
          refine ⟨k + 1, k + 1, A2, c2, L, by omega, by omega, by go_num, by go_num, rfl, hlen2, hLs, hO2, Lib.hid ⟨?_, by simp⟩, hBc⟩
          rw [hL.out]
          exact HN.out
        case measure => simp [intOf]; omega
      · have HN : Hid (b ∉ (s.data.toList.drop fr).take (k + 1 - fr)) := Lib.hid (by
          rw [show k + 1 - fr = (k - fr) + 1 by omega, take_snoc HA.out, List.mem_append, List.mem_singleton]
          rintro (h | h)
          · exact HF.out.2 h
          · exact byte_ne hq h.symm)
        have HF1 := Lib.hid HF.out.1
        clear HA HF
        go_wp2
        go_roundw
        case rel => exact ⟨k + 1, fr, A, c, r, by omega, by omega, by go_num, rfl, rfl, by omega, hrs, hO, Lib.hid ⟨HF1.out, HN.out⟩, hB⟩
        case measure => simp [intOf]; omega
    · obtain rfl : k = s.size := by omega
      have HN : Hid ((r ++ [s.extract fr s.size]).map (fun x => x.data.toList) = splitS b [] s.data.toList) := Lib.hid (by
        obtain ⟨h1, h2⟩ := HF.out
        rw [List.take_of_length_le (by rw [List.length_drop, ← Lib.size_eq]; exact Nat.le_refl _)] at h2
        rw [← h1, splitS_none [] h2, List.map_append, List.map_singleton, ext_from])
      have hx1 : (s.extract fr s.size).size ≤ s.size := by rw [ByteArray.size_extract]; omega
      clear HF
      go_wp2_with (at_builtin; refine wpList_append_one _ rfl (.tmp 28) (.tmp 32) _ rfl i0 _ _ Tryz.underlying60 hi0 hz0 hz1 hz2 rfl (by omega) Strs.len Strs.one (s.extract fr s.size) _ (hO.alloc _) rfl rfl (new_cells _ _ _ _ rfl) (by unfold maxLen; omega) (by omega) (by simp; omega) ?_; intro A2 c2 wb L hL hO2 hb2)
      have hlen : L.length = r.length + 1 := by rw [hL.out]; simp
      have hlen2 : L.length ≤ s.size + 1 := by omega
      have hLs : ∀ x ∈ L, x.size ≤ s.size := by
        rw [hL.out]
        intro x hx
        rcases List.mem_append.1 hx with hx | hx
        · exact hrs x hx
        · obtain rfl := List.mem_singleton.1 hx; exact hx1
      have hBc : Below w.heap.size w wb := Below.trans (by go_grown) hb2
      have HL : Hid (L.map (fun x => x.data.toList) = splitS b [] s.data.toList) := Lib.hid (by rw [hL.out]; exact HN.out)
      clear hb2 hO HN hL hlen
      go_wp2
      go_ret
      exact ⟨A2, c2, L, rfl, hO2, ⟨hlen2, hLs⟩, HL, hBc⟩
end Go.Proofs.YtjmjilkpckbpeaaGreatDoor

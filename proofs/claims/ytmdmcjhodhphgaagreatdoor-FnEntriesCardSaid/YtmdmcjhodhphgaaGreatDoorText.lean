/- Texts: which strings are texts of entries, as the program and the reference test it. Condition: the string is shorter than 2^62 bytes. -/
import Derived.Test.YtmdmcjhodhphgaaGreatDoorMem
import Derived.Test.YtmdmcjhodhphgaaGreatDoorNum
import Derived.Test.YtmdmcjhodhphgaaGreatDoorShAll
namespace Go.Proofs.YtmdmcjhodhphgaaGreatDoor
open Go.RowKit

def byteI (c : Int) : Bool := (decide (97 ≤ c) && decide (c ≤ 122)) || (decide (48 ≤ c) && decide (c ≤ 57)) || decide (c = 32) || decide (c = 46) || decide (c = 45) || decide (c = 58)
def allB (s : ByteArray) : Bool := s.data.toList.all fun c => byteI c.toNat
def endsB (s : ByteArray) : Bool := decide (s.data.toList.head? ≠ some 32) && decide (s.data.toList.getLast? ≠ some 32)
def textB (s : ByteArray) (most : Int) : Bool := allB s && (decide (1 ≤ s.size) && decide ((s.size : Int) ≤ most)) && endsB s

theorem textB_bad {s : ByteArray} {most : Int} {k : Nat} (hk : k < s.size) (h : byteI (s[k].toNat : Int) = false) : textB s most = false := by
  have : allB s = false := by
    rw [Bool.eq_false_iff]
    intro ha
    have := List.all_eq_true.1 ha s[k] (Array.getElem_mem_toList (by simpa using hk))
    rw [h] at this
    cases this
  simp [textB, this]
theorem textB_len {s : ByteArray} {most : Int} (h : ¬ (1 ≤ s.size ∧ (s.size : Int) ≤ most)) : textB s most = false := by
  have : (decide (1 ≤ s.size) && decide ((s.size : Int) ≤ most)) = false := by
    rw [Bool.eq_false_iff]; simp; omega
  simp only [textB, this, Bool.and_false, Bool.false_and]
theorem textB_ends {s : ByteArray} {most : Int} (ha : allB s = true) (h0 : 0 < s.size) (h1 : (s.size : Int) ≤ most) : textB s most = (decide ((s[0].toNat : Int) ≠ 32) && decide ((s[s.size - 1].toNat : Int) ≠ 32)) := by
  have hn : 0 < s.data.toList.length := by simpa using h0
  have e1 : s.data.toList.head? = some s[0] := by rw [List.head?_eq_getElem?, List.getElem?_eq_getElem hn]; rfl
  have e2 : s.data.toList.getLast? = some s[s.size - 1] := by rw [List.getLast?_eq_getElem?, List.getElem?_eq_getElem (by simp; omega)]; rfl
  have key : ∀ c : UInt8, decide (some c ≠ some (32 : UInt8)) = decide ((c.toNat : Int) ≠ 32) := by
    intro c
    rw [Bool.eq_iff_iff]
    simp only [decide_eq_true_eq, ne_eq, Option.some.injEq]
    constructor
    · intro h e; exact h (UInt8.toNat_inj.1 (by simpa using (by omega : c.toNat = 32)))
    · intro h e; subst e; exact h rfl
  rw [textB, ha, endsB, e1, e2, key, key]
  simp
  omega

set_option maxHeartbeats 400000 in
theorem lgByte_any (c : Int) (w : World) : Calls Tryz.prog 116 #[.int .u8 c] w (RV w (.bool (byteI c))) := by
  go_enter Tryz.func116, Tryz.ntmps116
  go_wp2
  all_goals go_ret
  all_goals exact RV.mk (vbool (by rw [Bool.eq_iff_iff]; first | (simp [byteI] <;> omega) | (simp_all [byteI] <;> omega))) (Below.refl _ _)

set_option maxHeartbeats 400000 in
theorem lgText_any (s : ByteArray) (most : Int) (hs : s.size ≤ maxLen) (w : World) : Calls Tryz.prog 106 #[.string s, .int .i64 most] w (RV w (.bool (textB s most))) := by
  unfold maxLen at hs
  go_enter Tryz.func106, Tryz.ntmps106
  go_wp2
  go_loopw [5] (fun i wr => ∃ k : Nat, k ≤ s.size ∧ i = .int .i64 k ∧ (∀ c ∈ s.data.toList.take k, byteI c.toNat = true) ∧ Below w.heap.size w wr) (fun i _ => s.size - (intOf i).toNat)
  case atStart => exact ⟨0, Nat.zero_le _, rfl, by simp, Below.refl _ _⟩
  case round =>
    obtain ⟨k, hk, rfl, hx, hB⟩ := hrel
    by_cases hlt : k < s.size
    · have hts := take_snoc (l := s.data.toList) (i := k) (x := s[k]) (by rw [List.getElem?_eq_getElem (by simpa using hlt)]; rfl)
      have HT := Lib.hid hts
      have HX := Lib.hid hx
      clear hts hx
      go_wp2_with fail
      refine (lgByte_any _ _).mono ?_
      rintro e w1 ⟨rfl, hb⟩
      have hB1 : Below w.heap.size w w1 := Below.on' (by go_grown) hb
      by_cases hb1 : byteI (s[k].toNat : Int) = true
      · go_wp2
        go_roundw
        case rel =>
          refine ⟨k + 1, by omega, by go_num, ?_, hB1⟩
          intro c hc
          rw [HT.out, List.mem_append] at hc
          rcases hc with hc | hc
          · exact HX.out c hc
          · obtain rfl := List.mem_singleton.1 hc
            exact hb1
        case measure => simp [intOf]; omega
      · have hb2 : byteI (s[k].toNat : Int) = false := by simpa using hb1
        have hf : textB s most = false := textB_bad (by simpa using hlt) hb2
        have HF := Lib.hid hf
        clear hf
        go_wp2
        go_ret
        exact RV.mk (by rw [HF.out]; rfl) hB1
    · have hall : allB s = true := by
        rw [List.take_of_length_le (by simp; omega)] at hx
        exact List.all_eq_true.2 hx
      have HA := Lib.hid hall
      clear hall hx
      go_wp2_with fail
      refine (l1In_any _ _ _ _).mono ?_
      rintro e w1 ⟨rfl, hb⟩
      have hB1 : Below w.heap.size w w1 := Below.on' (by go_grown) hb
      by_cases hr : 1 ≤ s.size ∧ (s.size : Int) ≤ most
      · have hr1 : inB s.size 1 most = true := by simp [inB]; omega
        have h0 : 0 < s.size := by omega
        have HE := Lib.hid (textB_ends (most := most) HA.out h0 hr.2)
        go_wp2
        all_goals go_ret
        all_goals exact RV.mk (by rw [HE.out]; first | (simp [*]; done) | (refine vbool ?_; rw [Bool.eq_iff_iff]; simp [*])) hB1
      · have hr1 : inB s.size 1 most = false := by simp [inB]; omega
        have HF := Lib.hid (textB_len (s := s) (most := most) (by omega))
        go_wp2
        go_ret
        exact RV.mk (by rw [HF.out]; rfl) hB1
/-- s[k:k+1] is the byte at k alone. -/
theorem extract_one {s : ByteArray} {k : Nat} (hk : k < s.size) : s.extract k (k + 1) = ⟨#[s[k]]⟩ := by
  apply ByteArray.ext
  apply Array.ext'
  have hk' : k < s.data.toList.length := by simpa using hk
  simp only [ByteArray.data_extract, Array.toList_extract, List.extract_eq_take_drop]
  rw [show k + 1 - k = 1 from by omega, List.drop_eq_getElem_cons hk']
  rfl
/-- A byte that is no letter and no digit may stand in a text if it is one of the four signs. -/
theorem sign_byte (c : UInt8) (h1 : ¬ (97 ≤ (c.toNat : Int) ∧ (c.toNat : Int) ≤ 122)) (h2 : ¬ (48 ≤ (c.toNat : Int) ∧ (c.toNat : Int) ≤ 57)) : decide (0 ≤ Lib.indexByte [32, 46, 45, 58] c) = byteI c.toNat := by
  have hne : ∀ d : UInt8, ((d == c) = true) ↔ (c.toNat : Int) = d.toNat := by
    intro d
    rw [beq_iff_eq]
    constructor
    · rintro rfl; rfl
    · intro h; exact (UInt8.toNat_inj.1 (by omega)).symm
  have e1 := hne 32
  have e2 := hne 46
  have e3 := hne 45
  have e4 := hne 58
  simp only [show (32 : UInt8).toNat = 32 from rfl, show (46 : UInt8).toNat = 46 from rfl, show (45 : UInt8).toNat = 45 from rfl, show (58 : UInt8).toNat = 58 from rfl] at e1 e2 e3 e4
  have hL : (decide (97 ≤ (c.toNat : Int)) && decide ((c.toNat : Int) ≤ 122)) = false := by rw [Bool.eq_false_iff]; simpa using h1
  have hD : (decide (48 ≤ (c.toNat : Int)) && decide ((c.toNat : Int) ≤ 57)) = false := by rw [Bool.eq_false_iff]; simpa using h2
  unfold byteI
  rw [hL, hD]
  simp only [Lib.indexByte]
  by_cases g1 : (32 == c) = true
  · have := e1.1 g1
    simp [g1, this]
  have n1 : ¬ (c.toNat : Int) = 32 := fun h => g1 (e1.2 h)
  by_cases g2 : (46 == c) = true
  · have := e2.1 g2
    simp [g1, g2, this]
  have n2 : ¬ (c.toNat : Int) = 46 := fun h => g2 (e2.2 h)
  by_cases g3 : (45 == c) = true
  · have := e3.1 g3
    simp [g1, g2, g3, this]
  have n3 : ¬ (c.toNat : Int) = 45 := fun h => g3 (e3.2 h)
  by_cases g4 : (58 == c) = true
  · have := e4.1 g4
    simp [g1, g2, g3, g4, this]
  have n4 : ¬ (c.toNat : Int) = 58 := fun h => g4 (e4.2 h)
  simp [g1, g2, g3, g4, n1, n2, n3, n4]
set_option maxHeartbeats 1000000 in
theorem isText_any (s : ByteArray) (hs : s.size ≤ maxLen) (w : World) : Calls Tryz.prog 53 #[.string s] w (RV w (.bool (textB s 40))) := by
  unfold maxLen at hs
  go_enter Tryz.func53, Tryz.ntmps53
  go_wp2
  go_loopw [6] (fun i wr => ∃ k : Nat, k ≤ s.size ∧ i = .int .i64 k ∧ (∀ c ∈ s.data.toList.take k, byteI c.toNat = true) ∧ Below w.heap.size w wr) (fun i _ => s.size - (intOf i).toNat)
  case atStart => exact ⟨0, Nat.zero_le _, rfl, by simp, Below.refl _ _⟩
  case round =>
    obtain ⟨k, hk, rfl, hx, hB⟩ := hrel
    by_cases hlt : k < s.size
    · have hts := take_snoc (l := s.data.toList) (i := k) (x := s[k]) (by rw [List.getElem?_eq_getElem (by simpa using hlt)]; rfl)
      have HT := Lib.hid hts
      have HX := Lib.hid hx
      have hex := extract_one hlt
      clear hts hx
      by_cases hb1 : byteI (s[k].toNat : Int) = true
      · have hx' : ∀ c ∈ s.data.toList.take (k + 1), byteI c.toNat = true := by
          intro c hc
          rw [HT.out, List.mem_append] at hc
          rcases hc with hc | hc
          · exact HX.out c hc
          · obtain rfl := List.mem_singleton.1 hc
            exact hb1
        have HX' := Lib.hid hx'
        clear hx'
        by_cases hL : 97 ≤ (s[k].toNat : Int) ∧ (s[k].toNat : Int) ≤ 122
        · obtain ⟨l1, l2⟩ := hL
          go_wp2
          go_roundw
          case rel => exact ⟨k + 1, by omega, by go_num, HX'.out, hB⟩
          case measure => simp [intOf]; omega
        · by_cases hD : 48 ≤ (s[k].toNat : Int) ∧ (s[k].toNat : Int) ≤ 57
          · obtain ⟨l1, l2⟩ := hD
            have l3 : ¬ 97 ≤ (s[k].toNat : Int) := by omega
            go_wp2
            go_roundw
            case rel => exact ⟨k + 1, by omega, by go_num, HX'.out, hB⟩
            case measure => simp [intOf]; omega
          · have hsg := sign_byte s[k] hL hD
            rw [hb1] at hsg
            go_wp2_with (go_at_call 79; refine (Tryz.strings_Contains_one _ _ _).mono ?_; rintro e w' ⟨rfl, rfl⟩)
            all_goals
              go_roundw
              case rel => exact ⟨k + 1, by omega, by go_num, HX'.out, hB⟩
              case measure => simp [intOf]; omega
      · have hb2 : byteI (s[k].toNat : Int) = false := by simpa using hb1
        have hL : ¬ (97 ≤ (s[k].toNat : Int) ∧ (s[k].toNat : Int) ≤ 122) := fun h => hb1 (by simp [byteI, h.1, h.2])
        have hD : ¬ (48 ≤ (s[k].toNat : Int) ∧ (s[k].toNat : Int) ≤ 57) := fun h => hb1 (by simp [byteI, h.1, h.2])
        have hsg := sign_byte s[k] hL hD
        rw [hb2] at hsg
        have HF := Lib.hid (textB_bad (s := s) (most := 40) hlt hb2)
        clear hb1 hb2
        go_wp2_with (go_at_call 79; refine (Tryz.strings_Contains_one _ _ _).mono ?_; rintro e w' ⟨rfl, rfl⟩)
        all_goals first
          | (go_ret; exact RV.mk (by rw [HF.out]; rfl) hB)
          | (exfalso; rename_i hh; simp at hh; omega)
    · have hall : allB s = true := by
        rw [List.take_of_length_le (by simp; omega)] at hx
        exact List.all_eq_true.2 hx
      have HA := Lib.hid hall
      clear hall hx
      go_wp2_with fail
      refine (inside_any _ _ _ _).mono ?_
      rintro e w1 ⟨rfl, hb⟩
      have hB1 : Below w.heap.size w w1 := Below.on' (by go_grown) hb
      by_cases hr : 1 ≤ s.size ∧ (s.size : Int) ≤ 40
      · have hr1 : inB s.size 1 40 = true := by simp [inB]; omega
        have h0 : 0 < s.size := by omega
        have HE := Lib.hid (textB_ends (most := 40) HA.out h0 hr.2)
        go_wp2
        all_goals go_ret
        all_goals exact RV.mk (by rw [HE.out]; first | (simp [*]; done) | (refine vbool ?_; rw [Bool.eq_iff_iff]; simp [*])) hB1
      · have hr1 : inB s.size 1 40 = false := by simp [inB]; omega
        have HF := Lib.hid (textB_len (s := s) (most := 40) (by omega))
        go_wp2
        go_ret
        exact RV.mk (by rw [HF.out]; rfl) hB1

def entB (r n m : Int) (t : ByteArray) : Bool := roomB r && inB n 1 999 && minB m && textB t 40
set_option maxHeartbeats 400000 in
theorem lgOne_any (r n m : Int) (t : ByteArray) (ht : t.size ≤ maxLen) (w : World) : Calls Tryz.prog 89 #[.agg #[.int .i64 r, .int .i64 n, .int .i64 m, .string t]] w (RV w (.bool (entB r n m t))) := by
  go_enter Tryz.func89, Tryz.ntmps89
  go_wp2_with (first
    | (go_at_call 107; refine (lgRoom_any _ _).mono ?_; rintro e w1 ⟨rfl, hb⟩; obtain ⟨hc, hf, hl, hz⟩ := bfam hb; (try simp at hz); (try (have k0 : w.heap.size < w1.heap.size := (by omega))); have hB : Below w.heap.size w w1 := Below.on' (by go_grown) hb; clear hb)
    | (go_at_call 78; refine (lgMinute_any _ _).mono ?_; rintro e w1 ⟨rfl, hb⟩; obtain ⟨hc, hf, hl, hz⟩ := bfam hb; (try simp at hz); (try (have k0 : w.heap.size < w1.heap.size := (by omega))); have hB : Below w.heap.size w w1 := Below.on' (by go_grown) hb; clear hb)
    | (go_at_call 63; refine (l1In_any _ _ _ _).mono ?_; rintro e w1 ⟨rfl, hb⟩; obtain ⟨hc, hf, hl, hz⟩ := bfam hb; (try simp at hz); (try (have k0 : w.heap.size < w1.heap.size := (by omega))); have hB : Below w.heap.size w w1 := Below.on' (by go_grown) hb; clear hb)
    | (go_at_call 106; refine (lgText_any _ _ ht _).mono ?_; rintro e w1 ⟨rfl, hb⟩; obtain ⟨hc, hf, hl, hz⟩ := bfam hb; (try simp at hz); (try (have k0 : w.heap.size < w1.heap.size := (by omega))); have hB : Below w.heap.size w w1 := Below.on' (by go_grown) hb; clear hb))
  all_goals go_ret
  all_goals (go_tidy; exact RV.mk (by simp_all [entB]) (by go_grown))
set_option maxHeartbeats 400000 in
theorem isEntry_any (r n m : Int) (t : ByteArray) (ht : t.size ≤ maxLen) (w : World) : Calls Tryz.prog 87 #[.agg #[.int .i64 r, .int .i64 n, .int .i64 m, .string t]] w (RV w (.bool (entB r n m t))) := by
  go_enter Tryz.func87, Tryz.ntmps87
  go_wp2_with (first
    | (go_at_call 51; refine (isRoom_any _ _).mono ?_; rintro e w1 ⟨rfl, hb⟩; obtain ⟨hc, hf, hl, hz⟩ := bfam hb; (try simp at hz); (try (have k0 : w.heap.size < w1.heap.size := (by omega))); have hB : Below w.heap.size w w1 := Below.on' (by go_grown) hb; clear hb)
    | (go_at_call 52; refine (isLogMinute_any _ _).mono ?_; rintro e w1 ⟨rfl, hb⟩; obtain ⟨hc, hf, hl, hz⟩ := bfam hb; (try simp at hz); (try (have k0 : w.heap.size < w1.heap.size := (by omega))); have hB : Below w.heap.size w w1 := Below.on' (by go_grown) hb; clear hb)
    | (go_at_call 57; refine (inside_any _ _ _ _).mono ?_; rintro e w1 ⟨rfl, hb⟩; obtain ⟨hc, hf, hl, hz⟩ := bfam hb; (try simp at hz); (try (have k0 : w.heap.size < w1.heap.size := (by omega))); have hB : Below w.heap.size w w1 := Below.on' (by go_grown) hb; clear hb)
    | (go_at_call 53; refine (isText_any _ ht _).mono ?_; rintro e w1 ⟨rfl, hb⟩; obtain ⟨hc, hf, hl, hz⟩ := bfam hb; (try simp at hz); (try (have k0 : w.heap.size < w1.heap.size := (by omega))); have hB : Below w.heap.size w w1 := Below.on' (by go_grown) hb; clear hb))
  all_goals go_ret
  all_goals (go_tidy; exact RV.mk (by simp_all [entB]) (by go_grown))

end Go.Proofs.YtmdmcjhodhphgaaGreatDoor

/- Several texts of this seat, one behind the other. Names and bodies: which strings are names of appliances or bodies of messages; messages and appliances that are valid. Condition: strings of at most 2^20 bytes. Channels: which are valid, said in two ways; messages added; what was received in order. Plain Lean, no program. No conditions. -/
import Derived.Test.YtjmjilkpckbpeaaGreatDoorLA
import Derived.Test.YtjmjilkpckbpeaaGreatDoorLB
import Derived.Lib.Hide
namespace Go.Proofs.YtjmjilkpckbpeaaGreatDoor
open Go.RowKit

def chr (s : ByteArray) (i : Nat) : Int := ((s.data.toList.getD i 0).toNat : Int)
theorem chr_eq {s : ByteArray} {k : Nat} (hk : k < s.size) : chr s k = (s[k].toNat : Int) := by
  have hk' : k < s.data.toList.length := by simpa using hk
  rw [chr, List.getD_eq_getElem?_getD, List.getElem?_eq_getElem hk']
  rfl
def letC (c : Int) : Bool := decide (97 ≤ c) && decide (c ≤ 122)
def digC (c : Int) : Bool := decide (48 ≤ c) && decide (c ≤ 57)
def nameAt (s : ByteArray) (i : Nat) : Bool := letC (chr s i) || (digC (chr s i) && decide (i ≠ 0))
def nameB (s : ByteArray) : Bool := (List.range s.size).all (nameAt s) && inB s.size 1 6
def bodyAt (s : ByteArray) (i : Nat) : Bool := letC (chr s i) || digC (chr s i) || (decide (chr s i = 32) && decide (i ≠ 0) && decide (i + 1 ≠ s.size))
def body0 (s : ByteArray) (i : Nat) : Bool := letC (chr s i) || digC (chr s i) || decide (chr s i = 32)
def bodyB (s : ByteArray) : Bool := (List.range s.size).all (bodyAt s) && inB s.size 1 12
theorem nameAt_iff {s : ByteArray} {k : Nat} (hk : k < s.size) : nameAt s k = true ↔ (97 ≤ (s[k].toNat : Int) ∧ (s[k].toNat : Int) ≤ 122) ∨ ((48 ≤ (s[k].toNat : Int) ∧ (s[k].toNat : Int) ≤ 57) ∧ k ≠ 0) := by
  rw [nameAt, chr_eq hk]; simp [letC, digC]
theorem bodyAt_iff {s : ByteArray} {k : Nat} (hk : k < s.size) : bodyAt s k = true ↔ (97 ≤ (s[k].toNat : Int) ∧ (s[k].toNat : Int) ≤ 122) ∨ (48 ≤ (s[k].toNat : Int) ∧ (s[k].toNat : Int) ≤ 57) ∨ ((s[k].toNat : Int) = 32 ∧ k ≠ 0 ∧ k + 1 ≠ s.size) := by
  rw [bodyAt, chr_eq hk]; simp [letC, digC, or_assoc, and_assoc]
theorem body0_iff {s : ByteArray} {k : Nat} (hk : k < s.size) : body0 s k = true ↔ (97 ≤ (s[k].toNat : Int) ∧ (s[k].toNat : Int) ≤ 122) ∨ (48 ≤ (s[k].toNat : Int) ∧ (s[k].toNat : Int) ≤ 57) ∨ (s[k].toNat : Int) = 32 := by
  rw [body0, chr_eq hk]; simp [letC, digC, or_assoc]
theorem upto_all {f : Nat → Bool} {n : Nat} (h : ∀ i, i < n → f i = true) : (List.range n).all f = true := List.all_eq_true.2 fun i hi => h i (List.mem_range.1 hi)
theorem upto_no {f : Nat → Bool} {n k : Nat} (hk : k < n) (h : f k = false) : (List.range n).all f = false := by
  rw [Bool.eq_false_iff]
  intro ha
  have := List.all_eq_true.1 ha k (List.mem_range.2 hk)
  rw [h] at this
  cases this
theorem upto_step {f : Nat → Bool} {k : Nat} (h : ∀ i, i < k → f i = true) (hk : f k = true) : ∀ i, i < k + 1 → f i = true := fun i hi => by
  rcases Nat.lt_or_ge i k with h1 | h1
  · exact h i h1
  · obtain rfl : i = k := by omega
    exact hk
theorem body_ends {s : ByteArray} (h0 : 0 < s.size) : (List.range s.size).all (bodyAt s) = ((List.range s.size).all (body0 s) && (decide ((s[0].toNat : Int) ≠ 32) && decide ((s[s.size - 1].toNat : Int) ≠ 32))) := by
  rw [Bool.eq_iff_iff]
  simp only [Bool.and_eq_true, List.all_eq_true, List.mem_range, decide_eq_true_eq]
  constructor
  · intro h
    refine ⟨fun i hi => (body0_iff hi).2 ?_, ?_, ?_⟩
    · rcases (bodyAt_iff hi).1 (h i hi) with h1 | h1 | h1
      · exact .inl h1
      · exact .inr (.inl h1)
      · exact .inr (.inr h1.1)
    · intro e
      rcases (bodyAt_iff h0).1 (h 0 h0) with h1 | h1 | h1
      · omega
      · omega
      · exact h1.2.1 rfl
    · intro e
      have hl : s.size - 1 < s.size := by omega
      rcases (bodyAt_iff hl).1 (h _ hl) with h1 | h1 | h1
      · omega
      · omega
      · exact h1.2.2 (by omega)
  · rintro ⟨h, ha, hb⟩ i hi
    rw [bodyAt_iff hi]
    rcases (body0_iff hi).1 (h i hi) with h1 | h1 | h1
    · exact .inl h1
    · exact .inr (.inl h1)
    · refine .inr (.inr ⟨h1, ?_, ?_⟩)
      · rintro rfl; exact ha h1
      · intro e
        have : i = s.size - 1 := by omega
        subst this
        exact hb h1
set_option maxHeartbeats 4000000 in
theorem isName_any (s : ByteArray) (w : World) (hs : s.size ≤ 1048576) : Calls Tryz.prog 71 #[.string s] w (RV w (.bool (nameB s))) := by
  go_enter Tryz.func71, Tryz.ntmps71
  go_wp2
  go_loopw [8] (fun i wr => ∃ k : Nat, k ≤ s.size ∧ i = .int .i64 k ∧ Hid (∀ i, i < k → nameAt s i = true) ∧ Below w.heap.size w wr) (fun i _ => s.size - (intOf i).toNat)
  case atStart => exact ⟨0, Nat.zero_le _, rfl, Lib.hid (fun i hi => absurd hi (Nat.not_lt_zero i)), Below.refl _ _⟩
  case round =>
    obtain ⟨k, hk, rfl, HX, hB⟩ := hrel
    by_cases hlt : k < s.size
    · have HC := Lib.hid (nameAt_iff hlt)
      have HF : Hid (nameAt s k = false → nameB s = false) := Lib.hid (fun hb1 => by rw [nameB, upto_no hlt (by simpa using hb1), Bool.false_and])
      rcases (by omega : ((s[k].toNat : Int) < 48) ∨ (48 ≤ (s[k].toNat : Int) ∧ (s[k].toNat : Int) ≤ 57 ∧ k = 0) ∨ (48 ≤ (s[k].toNat : Int) ∧ (s[k].toNat : Int) ≤ 57 ∧ k ≠ 0) ∨ (57 < (s[k].toNat : Int) ∧ (s[k].toNat : Int) < 97) ∨ (97 ≤ (s[k].toNat : Int) ∧ (s[k].toNat : Int) ≤ 122) ∨ (122 < (s[k].toNat : Int))) with z | z | z | z | z | z
      · have l0 : ¬ 97 ≤ (s[k].toNat : Int) := by omega
        have l1 : (s[k].toNat : Int) ≤ 122 := by omega
        have l2 : ¬ 48 ≤ (s[k].toNat : Int) := by omega
        have l3 : (s[k].toNat : Int) ≤ 57 := by omega
        clear z
        by_cases hb1 : nameAt s k = true
        · have HX' := Lib.hid (upto_step HX.out hb1)
          have HD := HC.out.1 hb1
          first
          | (exfalso; omega)
          | (replace HD := Lib.hid HD
             clear hb1 HC HX HF
             go_wp2_with fail
             refine wp_region_quiet (C := fun w' => Below wr.heap.size wr w') (by kernel_rfl) (by kernel_rfl) ((Below.refl _ _).drew) ?_
             dsimp only [Array.toList]
             iterate 22
               with_reducible refine wpQuiet_step (fun K hK => ?_)
               go_simp
               try (split <;> first | (exfalso; omega) | skip)
               first
                 | (refine hK _ ?_; clear hK K)
                 | (apply Exists.intro
                    refine ⟨fun w' hw' => ?_, hK _ ?_⟩
                    · go_simp; rfl
                    clear hK K)
             refine wpQuiet_nil ?_
             intro W2 hW2
             replace hB := Below.on' hB hW2
             clear hW2
             go_wp2
             all_goals first
               | (exfalso; have hd := HD.out; omega)
               | (exfalso; have hd := HD.out; clear HD; simp at *; done)
               | (exfalso; have hd := HD.out; clear HD; simp at *; omega)
               | (go_roundw
                  case rel => exact ⟨k + 1, by omega, by go_num, HX', hB⟩
                  case measure => simp [intOf]; omega))
        · have HD : ¬ _ := fun h => hb1 (HC.out.2 h)
          have HG := Lib.hid (HF.out (by simpa using hb1))
          first
          | (exfalso; omega)
          | (replace HD := Lib.hid HD
             clear hb1 HC HX HF
             go_wp2_with fail
             refine wp_region_quiet (C := fun w' => Below wr.heap.size wr w') (by kernel_rfl) (by kernel_rfl) ((Below.refl _ _).drew) ?_
             dsimp only [Array.toList]
             iterate 22
               with_reducible refine wpQuiet_step (fun K hK => ?_)
               go_simp
               try (split <;> first | (exfalso; omega) | skip)
               first
                 | (refine hK _ ?_; clear hK K)
                 | (apply Exists.intro
                    refine ⟨fun w' hw' => ?_, hK _ ?_⟩
                    · go_simp; rfl
                    clear hK K)
             refine wpQuiet_nil ?_
             intro W2 hW2
             replace hB := Below.on' hB hW2
             clear hW2
             go_wp2
             all_goals first
               | (exfalso; have hd := HD.out; omega)
               | (exfalso; have hd := HD.out; clear HD; simp at *; done)
               | (exfalso; have hd := HD.out; clear HD; simp at *; omega)
               | (go_ret; exact RV.mk (by rw [HG.out]; rfl) hB))
      · obtain rfl : k = 0 := by omega
        have l0 : ¬ 97 ≤ (s[0].toNat : Int) := by omega
        have l1 : (s[0].toNat : Int) ≤ 122 := by omega
        have l2 : 48 ≤ (s[0].toNat : Int) := by omega
        have l3 : (s[0].toNat : Int) ≤ 57 := by omega
        clear z
        by_cases hb1 : nameAt s 0 = true
        · have HX' := Lib.hid (upto_step HX.out hb1)
          have HD := HC.out.1 hb1
          first
          | (exfalso; omega)
          | (replace HD := Lib.hid HD
             clear hb1 HC HX HF
             go_wp2_with fail
             refine wp_region_quiet (C := fun w' => Below wr.heap.size wr w') (by kernel_rfl) (by kernel_rfl) ((Below.refl _ _).drew) ?_
             dsimp only [Array.toList]
             iterate 22
               with_reducible refine wpQuiet_step (fun K hK => ?_)
               go_simp
               try (split <;> first | (exfalso; omega) | skip)
               first
                 | (refine hK _ ?_; clear hK K)
                 | (apply Exists.intro
                    refine ⟨fun w' hw' => ?_, hK _ ?_⟩
                    · go_simp; rfl
                    clear hK K)
             refine wpQuiet_nil ?_
             intro W2 hW2
             replace hB := Below.on' hB hW2
             clear hW2
             go_wp2
             all_goals first
               | (exfalso; have hd := HD.out; omega)
               | (exfalso; have hd := HD.out; clear HD; simp at *; done)
               | (exfalso; have hd := HD.out; clear HD; simp at *; omega)
               | (go_roundw
                  case rel => exact ⟨0 + 1, by omega, by go_num, HX', hB⟩
                  case measure => simp [intOf]; omega))
        · have HD : ¬ _ := fun h => hb1 (HC.out.2 h)
          have HG := Lib.hid (HF.out (by simpa using hb1))
          first
          | (exfalso; omega)
          | (replace HD := Lib.hid HD
             clear hb1 HC HX HF
             go_wp2_with fail
             refine wp_region_quiet (C := fun w' => Below wr.heap.size wr w') (by kernel_rfl) (by kernel_rfl) ((Below.refl _ _).drew) ?_
             dsimp only [Array.toList]
             iterate 22
               with_reducible refine wpQuiet_step (fun K hK => ?_)
               go_simp
               try (split <;> first | (exfalso; omega) | skip)
               first
                 | (refine hK _ ?_; clear hK K)
                 | (apply Exists.intro
                    refine ⟨fun w' hw' => ?_, hK _ ?_⟩
                    · go_simp; rfl
                    clear hK K)
             refine wpQuiet_nil ?_
             intro W2 hW2
             replace hB := Below.on' hB hW2
             clear hW2
             go_wp2
             all_goals first
               | (exfalso; have hd := HD.out; omega)
               | (exfalso; have hd := HD.out; clear HD; simp at *; done)
               | (exfalso; have hd := HD.out; clear HD; simp at *; omega)
               | (go_ret; exact RV.mk (by rw [HG.out]; rfl) hB))
      · have l0 : ¬ 97 ≤ (s[k].toNat : Int) := by omega
        have l1 : (s[k].toNat : Int) ≤ 122 := by omega
        have l2 : 48 ≤ (s[k].toNat : Int) := by omega
        have l3 : (s[k].toNat : Int) ≤ 57 := by omega
        have k0 : ¬ k = 0 := by omega
        clear z
        by_cases hb1 : nameAt s k = true
        · have HX' := Lib.hid (upto_step HX.out hb1)
          have HD := HC.out.1 hb1
          first
          | (exfalso; omega)
          | (replace HD := Lib.hid HD
             clear hb1 HC HX HF
             go_wp2_with fail
             refine wp_region_quiet (C := fun w' => Below wr.heap.size wr w') (by kernel_rfl) (by kernel_rfl) ((Below.refl _ _).drew) ?_
             dsimp only [Array.toList]
             iterate 22
               with_reducible refine wpQuiet_step (fun K hK => ?_)
               go_simp
               try (split <;> first | (exfalso; omega) | skip)
               first
                 | (refine hK _ ?_; clear hK K)
                 | (apply Exists.intro
                    refine ⟨fun w' hw' => ?_, hK _ ?_⟩
                    · go_simp; rfl
                    clear hK K)
             refine wpQuiet_nil ?_
             intro W2 hW2
             replace hB := Below.on' hB hW2
             clear hW2
             go_wp2
             all_goals first
               | (exfalso; have hd := HD.out; omega)
               | (exfalso; have hd := HD.out; clear HD; simp at *; done)
               | (exfalso; have hd := HD.out; clear HD; simp at *; omega)
               | (go_roundw
                  case rel => exact ⟨k + 1, by omega, by go_num, HX', hB⟩
                  case measure => simp [intOf]; omega))
        · have HD : ¬ _ := fun h => hb1 (HC.out.2 h)
          have HG := Lib.hid (HF.out (by simpa using hb1))
          first
          | (exfalso; omega)
          | (replace HD := Lib.hid HD
             clear hb1 HC HX HF
             go_wp2_with fail
             refine wp_region_quiet (C := fun w' => Below wr.heap.size wr w') (by kernel_rfl) (by kernel_rfl) ((Below.refl _ _).drew) ?_
             dsimp only [Array.toList]
             iterate 22
               with_reducible refine wpQuiet_step (fun K hK => ?_)
               go_simp
               try (split <;> first | (exfalso; omega) | skip)
               first
                 | (refine hK _ ?_; clear hK K)
                 | (apply Exists.intro
                    refine ⟨fun w' hw' => ?_, hK _ ?_⟩
                    · go_simp; rfl
                    clear hK K)
             refine wpQuiet_nil ?_
             intro W2 hW2
             replace hB := Below.on' hB hW2
             clear hW2
             go_wp2
             all_goals first
               | (exfalso; have hd := HD.out; omega)
               | (exfalso; have hd := HD.out; clear HD; simp at *; done)
               | (exfalso; have hd := HD.out; clear HD; simp at *; omega)
               | (go_ret; exact RV.mk (by rw [HG.out]; rfl) hB))
      · have l0 : ¬ 97 ≤ (s[k].toNat : Int) := by omega
        have l1 : (s[k].toNat : Int) ≤ 122 := by omega
        have l2 : 48 ≤ (s[k].toNat : Int) := by omega
        have l3 : ¬ (s[k].toNat : Int) ≤ 57 := by omega
        clear z
        by_cases hb1 : nameAt s k = true
        · have HX' := Lib.hid (upto_step HX.out hb1)
          have HD := HC.out.1 hb1
          first
          | (exfalso; omega)
          | (replace HD := Lib.hid HD
             clear hb1 HC HX HF
             go_wp2_with fail
             refine wp_region_quiet (C := fun w' => Below wr.heap.size wr w') (by kernel_rfl) (by kernel_rfl) ((Below.refl _ _).drew) ?_
             dsimp only [Array.toList]
             iterate 22
               with_reducible refine wpQuiet_step (fun K hK => ?_)
               go_simp
               try (split <;> first | (exfalso; omega) | skip)
               first
                 | (refine hK _ ?_; clear hK K)
                 | (apply Exists.intro
                    refine ⟨fun w' hw' => ?_, hK _ ?_⟩
                    · go_simp; rfl
                    clear hK K)
             refine wpQuiet_nil ?_
             intro W2 hW2
             replace hB := Below.on' hB hW2
             clear hW2
             go_wp2
             all_goals first
               | (exfalso; have hd := HD.out; omega)
               | (exfalso; have hd := HD.out; clear HD; simp at *; done)
               | (exfalso; have hd := HD.out; clear HD; simp at *; omega)
               | (go_roundw
                  case rel => exact ⟨k + 1, by omega, by go_num, HX', hB⟩
                  case measure => simp [intOf]; omega))
        · have HD : ¬ _ := fun h => hb1 (HC.out.2 h)
          have HG := Lib.hid (HF.out (by simpa using hb1))
          first
          | (exfalso; omega)
          | (replace HD := Lib.hid HD
             clear hb1 HC HX HF
             go_wp2_with fail
             refine wp_region_quiet (C := fun w' => Below wr.heap.size wr w') (by kernel_rfl) (by kernel_rfl) ((Below.refl _ _).drew) ?_
             dsimp only [Array.toList]
             iterate 22
               with_reducible refine wpQuiet_step (fun K hK => ?_)
               go_simp
               try (split <;> first | (exfalso; omega) | skip)
               first
                 | (refine hK _ ?_; clear hK K)
                 | (apply Exists.intro
                    refine ⟨fun w' hw' => ?_, hK _ ?_⟩
                    · go_simp; rfl
                    clear hK K)
             refine wpQuiet_nil ?_
             intro W2 hW2
             replace hB := Below.on' hB hW2
             clear hW2
             go_wp2
             all_goals first
               | (exfalso; have hd := HD.out; omega)
               | (exfalso; have hd := HD.out; clear HD; simp at *; done)
               | (exfalso; have hd := HD.out; clear HD; simp at *; omega)
               | (go_ret; exact RV.mk (by rw [HG.out]; rfl) hB))
      · have l0 : 97 ≤ (s[k].toNat : Int) := by omega
        have l1 : (s[k].toNat : Int) ≤ 122 := by omega
        have l2 : 48 ≤ (s[k].toNat : Int) := by omega
        have l3 : ¬ (s[k].toNat : Int) ≤ 57 := by omega
        clear z
        by_cases hb1 : nameAt s k = true
        · have HX' := Lib.hid (upto_step HX.out hb1)
          have HD := HC.out.1 hb1
          first
          | (exfalso; omega)
          | (replace HD := Lib.hid HD
             clear hb1 HC HX HF
             go_wp2_with fail
             refine wp_region_quiet (C := fun w' => Below wr.heap.size wr w') (by kernel_rfl) (by kernel_rfl) ((Below.refl _ _).drew) ?_
             dsimp only [Array.toList]
             iterate 22
               with_reducible refine wpQuiet_step (fun K hK => ?_)
               go_simp
               try (split <;> first | (exfalso; omega) | skip)
               first
                 | (refine hK _ ?_; clear hK K)
                 | (apply Exists.intro
                    refine ⟨fun w' hw' => ?_, hK _ ?_⟩
                    · go_simp; rfl
                    clear hK K)
             refine wpQuiet_nil ?_
             intro W2 hW2
             replace hB := Below.on' hB hW2
             clear hW2
             go_wp2
             all_goals first
               | (exfalso; have hd := HD.out; omega)
               | (exfalso; have hd := HD.out; clear HD; simp at *; done)
               | (exfalso; have hd := HD.out; clear HD; simp at *; omega)
               | (go_roundw
                  case rel => exact ⟨k + 1, by omega, by go_num, HX', hB⟩
                  case measure => simp [intOf]; omega))
        · have HD : ¬ _ := fun h => hb1 (HC.out.2 h)
          have HG := Lib.hid (HF.out (by simpa using hb1))
          first
          | (exfalso; omega)
          | (replace HD := Lib.hid HD
             clear hb1 HC HX HF
             go_wp2_with fail
             refine wp_region_quiet (C := fun w' => Below wr.heap.size wr w') (by kernel_rfl) (by kernel_rfl) ((Below.refl _ _).drew) ?_
             dsimp only [Array.toList]
             iterate 22
               with_reducible refine wpQuiet_step (fun K hK => ?_)
               go_simp
               try (split <;> first | (exfalso; omega) | skip)
               first
                 | (refine hK _ ?_; clear hK K)
                 | (apply Exists.intro
                    refine ⟨fun w' hw' => ?_, hK _ ?_⟩
                    · go_simp; rfl
                    clear hK K)
             refine wpQuiet_nil ?_
             intro W2 hW2
             replace hB := Below.on' hB hW2
             clear hW2
             go_wp2
             all_goals first
               | (exfalso; have hd := HD.out; omega)
               | (exfalso; have hd := HD.out; clear HD; simp at *; done)
               | (exfalso; have hd := HD.out; clear HD; simp at *; omega)
               | (go_ret; exact RV.mk (by rw [HG.out]; rfl) hB))
      · have l0 : 97 ≤ (s[k].toNat : Int) := by omega
        have l1 : ¬ (s[k].toNat : Int) ≤ 122 := by omega
        have l2 : 48 ≤ (s[k].toNat : Int) := by omega
        have l3 : ¬ (s[k].toNat : Int) ≤ 57 := by omega
        clear z
        by_cases hb1 : nameAt s k = true
        · have HX' := Lib.hid (upto_step HX.out hb1)
          have HD := HC.out.1 hb1
          first
          | (exfalso; omega)
          | (replace HD := Lib.hid HD
             clear hb1 HC HX HF
             go_wp2_with fail
             refine wp_region_quiet (C := fun w' => Below wr.heap.size wr w') (by kernel_rfl) (by kernel_rfl) ((Below.refl _ _).drew) ?_
             dsimp only [Array.toList]
             iterate 22
               with_reducible refine wpQuiet_step (fun K hK => ?_)
               go_simp
               try (split <;> first | (exfalso; omega) | skip)
               first
                 | (refine hK _ ?_; clear hK K)
                 | (apply Exists.intro
                    refine ⟨fun w' hw' => ?_, hK _ ?_⟩
                    · go_simp; rfl
                    clear hK K)
             refine wpQuiet_nil ?_
             intro W2 hW2
             replace hB := Below.on' hB hW2
             clear hW2
             go_wp2
             all_goals first
               | (exfalso; have hd := HD.out; omega)
               | (exfalso; have hd := HD.out; clear HD; simp at *; done)
               | (exfalso; have hd := HD.out; clear HD; simp at *; omega)
               | (go_roundw
                  case rel => exact ⟨k + 1, by omega, by go_num, HX', hB⟩
                  case measure => simp [intOf]; omega))
        · have HD : ¬ _ := fun h => hb1 (HC.out.2 h)
          have HG := Lib.hid (HF.out (by simpa using hb1))
          first
          | (exfalso; omega)
          | (replace HD := Lib.hid HD
             clear hb1 HC HX HF
             go_wp2_with fail
             refine wp_region_quiet (C := fun w' => Below wr.heap.size wr w') (by kernel_rfl) (by kernel_rfl) ((Below.refl _ _).drew) ?_
             dsimp only [Array.toList]
             iterate 22
               with_reducible refine wpQuiet_step (fun K hK => ?_)
               go_simp
               try (split <;> first | (exfalso; omega) | skip)
               first
                 | (refine hK _ ?_; clear hK K)
                 | (apply Exists.intro
                    refine ⟨fun w' hw' => ?_, hK _ ?_⟩
                    · go_simp; rfl
                    clear hK K)
             refine wpQuiet_nil ?_
             intro W2 hW2
             replace hB := Below.on' hB hW2
             clear hW2
             go_wp2
             all_goals first
               | (exfalso; have hd := HD.out; omega)
               | (exfalso; have hd := HD.out; clear HD; simp at *; done)
               | (exfalso; have hd := HD.out; clear HD; simp at *; omega)
               | (go_ret; exact RV.mk (by rw [HG.out]; rfl) hB))
    · obtain rfl : k = s.size := by omega
      have HA := Lib.hid (upto_all HX.out)
      clear HX
      go_wp2_with fail
      refine (inside_any _ _ _ _).mono ?_
      rintro e w1 ⟨rfl, hb⟩
      have hB1 : Below w.heap.size w w1 := Below.on' (by go_grown) hb
      have HE : Hid (nameB s = inB s.size 1 6) := Lib.hid (by rw [nameB, HA.out, Bool.true_and])
      go_wp2
      go_ret
      exact RV.mk (by rw [HE.out]; rfl) hB1
set_option maxHeartbeats 4000000 in
theorem apName_any (s : ByteArray) (w : World) (hs : s.size ≤ 1048576) : Calls Tryz.prog 82 #[.string s] w (RV w (.bool (nameB s))) := by
  go_enter Tryz.func82, Tryz.ntmps82
  go_wp2
  go_loopw [3] (fun i wr => ∃ k : Nat, k ≤ s.size ∧ i = .int .i64 k ∧ Hid (∀ i, i < k → nameAt s i = true) ∧ Below w.heap.size w wr) (fun i _ => s.size - (intOf i).toNat)
  case atStart => exact ⟨0, Nat.zero_le _, rfl, Lib.hid (fun i hi => absurd hi (Nat.not_lt_zero i)), Below.refl _ _⟩
  case round =>
    obtain ⟨k, hk, rfl, HX, hB⟩ := hrel
    by_cases hlt : k < s.size
    · have HC := Lib.hid (nameAt_iff hlt)
      have HF : Hid (nameAt s k = false → nameB s = false) := Lib.hid (fun hb1 => by rw [nameB, upto_no hlt (by simpa using hb1), Bool.false_and])
      rcases (by omega : ((s[k].toNat : Int) < 48) ∨ (48 ≤ (s[k].toNat : Int) ∧ (s[k].toNat : Int) ≤ 57 ∧ k = 0) ∨ (48 ≤ (s[k].toNat : Int) ∧ (s[k].toNat : Int) ≤ 57 ∧ k ≠ 0) ∨ (57 < (s[k].toNat : Int) ∧ (s[k].toNat : Int) < 97) ∨ (97 ≤ (s[k].toNat : Int) ∧ (s[k].toNat : Int) ≤ 122) ∨ (122 < (s[k].toNat : Int))) with z | z | z | z | z | z
      · have l0 : ¬ 97 ≤ (s[k].toNat : Int) := by omega
        have l1 : (s[k].toNat : Int) ≤ 122 := by omega
        have l2 : ¬ 48 ≤ (s[k].toNat : Int) := by omega
        have l3 : (s[k].toNat : Int) ≤ 57 := by omega
        clear z
        by_cases hb1 : nameAt s k = true
        · have HX' := Lib.hid (upto_step HX.out hb1)
          have HD := HC.out.1 hb1
          first
          | (exfalso; omega)
          | (replace HD := Lib.hid HD
             clear hb1 HC HX HF
             go_wp2
             all_goals first
               | (exfalso; have hd := HD.out; omega)
               | (exfalso; have hd := HD.out; clear HD; simp at *; done)
               | (exfalso; have hd := HD.out; clear HD; simp at *; omega)
               | (go_roundw
                  case rel => exact ⟨k + 1, by omega, by go_num, HX', hB⟩
                  case measure => simp [intOf]; omega))
        · have HD : ¬ _ := fun h => hb1 (HC.out.2 h)
          have HG := Lib.hid (HF.out (by simpa using hb1))
          first
          | (exfalso; omega)
          | (replace HD := Lib.hid HD
             clear hb1 HC HX HF
             go_wp2
             all_goals first
               | (exfalso; have hd := HD.out; omega)
               | (exfalso; have hd := HD.out; clear HD; simp at *; done)
               | (exfalso; have hd := HD.out; clear HD; simp at *; omega)
               | (go_ret; exact RV.mk (by rw [HG.out]; rfl) hB))
      · obtain rfl : k = 0 := by omega
        have l0 : ¬ 97 ≤ (s[0].toNat : Int) := by omega
        have l1 : (s[0].toNat : Int) ≤ 122 := by omega
        have l2 : 48 ≤ (s[0].toNat : Int) := by omega
        have l3 : (s[0].toNat : Int) ≤ 57 := by omega
        clear z
        by_cases hb1 : nameAt s 0 = true
        · have HX' := Lib.hid (upto_step HX.out hb1)
          have HD := HC.out.1 hb1
          first
          | (exfalso; omega)
          | (replace HD := Lib.hid HD
             clear hb1 HC HX HF
             go_wp2
             all_goals first
               | (exfalso; have hd := HD.out; omega)
               | (exfalso; have hd := HD.out; clear HD; simp at *; done)
               | (exfalso; have hd := HD.out; clear HD; simp at *; omega)
               | (go_roundw
                  case rel => exact ⟨0 + 1, by omega, by go_num, HX', hB⟩
                  case measure => simp [intOf]; omega))
        · have HD : ¬ _ := fun h => hb1 (HC.out.2 h)
          have HG := Lib.hid (HF.out (by simpa using hb1))
          first
          | (exfalso; omega)
          | (replace HD := Lib.hid HD
             clear hb1 HC HX HF
             go_wp2
             all_goals first
               | (exfalso; have hd := HD.out; omega)
               | (exfalso; have hd := HD.out; clear HD; simp at *; done)
               | (exfalso; have hd := HD.out; clear HD; simp at *; omega)
               | (go_ret; exact RV.mk (by rw [HG.out]; rfl) hB))
      · have l0 : ¬ 97 ≤ (s[k].toNat : Int) := by omega
        have l1 : (s[k].toNat : Int) ≤ 122 := by omega
        have l2 : 48 ≤ (s[k].toNat : Int) := by omega
        have l3 : (s[k].toNat : Int) ≤ 57 := by omega
        have k0 : ¬ k = 0 := by omega
        clear z
        by_cases hb1 : nameAt s k = true
        · have HX' := Lib.hid (upto_step HX.out hb1)
          have HD := HC.out.1 hb1
          first
          | (exfalso; omega)
          | (replace HD := Lib.hid HD
             clear hb1 HC HX HF
             go_wp2
             all_goals first
               | (exfalso; have hd := HD.out; omega)
               | (exfalso; have hd := HD.out; clear HD; simp at *; done)
               | (exfalso; have hd := HD.out; clear HD; simp at *; omega)
               | (go_roundw
                  case rel => exact ⟨k + 1, by omega, by go_num, HX', hB⟩
                  case measure => simp [intOf]; omega))
        · have HD : ¬ _ := fun h => hb1 (HC.out.2 h)
          have HG := Lib.hid (HF.out (by simpa using hb1))
          first
          | (exfalso; omega)
          | (replace HD := Lib.hid HD
             clear hb1 HC HX HF
             go_wp2
             all_goals first
               | (exfalso; have hd := HD.out; omega)
               | (exfalso; have hd := HD.out; clear HD; simp at *; done)
               | (exfalso; have hd := HD.out; clear HD; simp at *; omega)
               | (go_ret; exact RV.mk (by rw [HG.out]; rfl) hB))
      · have l0 : ¬ 97 ≤ (s[k].toNat : Int) := by omega
        have l1 : (s[k].toNat : Int) ≤ 122 := by omega
        have l2 : 48 ≤ (s[k].toNat : Int) := by omega
        have l3 : ¬ (s[k].toNat : Int) ≤ 57 := by omega
        clear z
        by_cases hb1 : nameAt s k = true
        · have HX' := Lib.hid (upto_step HX.out hb1)
          have HD := HC.out.1 hb1
          first
          | (exfalso; omega)
          | (replace HD := Lib.hid HD
             clear hb1 HC HX HF
             go_wp2
             all_goals first
               | (exfalso; have hd := HD.out; omega)
               | (exfalso; have hd := HD.out; clear HD; simp at *; done)
               | (exfalso; have hd := HD.out; clear HD; simp at *; omega)
               | (go_roundw
                  case rel => exact ⟨k + 1, by omega, by go_num, HX', hB⟩
                  case measure => simp [intOf]; omega))
        · have HD : ¬ _ := fun h => hb1 (HC.out.2 h)
          have HG := Lib.hid (HF.out (by simpa using hb1))
          first
          | (exfalso; omega)
          | (replace HD := Lib.hid HD
             clear hb1 HC HX HF
             go_wp2
             all_goals first
               | (exfalso; have hd := HD.out; omega)
               | (exfalso; have hd := HD.out; clear HD; simp at *; done)
               | (exfalso; have hd := HD.out; clear HD; simp at *; omega)
               | (go_ret; exact RV.mk (by rw [HG.out]; rfl) hB))
      · have l0 : 97 ≤ (s[k].toNat : Int) := by omega
        have l1 : (s[k].toNat : Int) ≤ 122 := by omega
        have l2 : 48 ≤ (s[k].toNat : Int) := by omega
        have l3 : ¬ (s[k].toNat : Int) ≤ 57 := by omega
        clear z
        by_cases hb1 : nameAt s k = true
        · have HX' := Lib.hid (upto_step HX.out hb1)
          have HD := HC.out.1 hb1
          first
          | (exfalso; omega)
          | (replace HD := Lib.hid HD
             clear hb1 HC HX HF
             go_wp2
             all_goals first
               | (exfalso; have hd := HD.out; omega)
               | (exfalso; have hd := HD.out; clear HD; simp at *; done)
               | (exfalso; have hd := HD.out; clear HD; simp at *; omega)
               | (go_roundw
                  case rel => exact ⟨k + 1, by omega, by go_num, HX', hB⟩
                  case measure => simp [intOf]; omega))
        · have HD : ¬ _ := fun h => hb1 (HC.out.2 h)
          have HG := Lib.hid (HF.out (by simpa using hb1))
          first
          | (exfalso; omega)
          | (replace HD := Lib.hid HD
             clear hb1 HC HX HF
             go_wp2
             all_goals first
               | (exfalso; have hd := HD.out; omega)
               | (exfalso; have hd := HD.out; clear HD; simp at *; done)
               | (exfalso; have hd := HD.out; clear HD; simp at *; omega)
               | (go_ret; exact RV.mk (by rw [HG.out]; rfl) hB))
      · have l0 : 97 ≤ (s[k].toNat : Int) := by omega
        have l1 : ¬ (s[k].toNat : Int) ≤ 122 := by omega
        have l2 : 48 ≤ (s[k].toNat : Int) := by omega
        have l3 : ¬ (s[k].toNat : Int) ≤ 57 := by omega
        clear z
        by_cases hb1 : nameAt s k = true
        · have HX' := Lib.hid (upto_step HX.out hb1)
          have HD := HC.out.1 hb1
          first
          | (exfalso; omega)
          | (replace HD := Lib.hid HD
             clear hb1 HC HX HF
             go_wp2
             all_goals first
               | (exfalso; have hd := HD.out; omega)
               | (exfalso; have hd := HD.out; clear HD; simp at *; done)
               | (exfalso; have hd := HD.out; clear HD; simp at *; omega)
               | (go_roundw
                  case rel => exact ⟨k + 1, by omega, by go_num, HX', hB⟩
                  case measure => simp [intOf]; omega))
        · have HD : ¬ _ := fun h => hb1 (HC.out.2 h)
          have HG := Lib.hid (HF.out (by simpa using hb1))
          first
          | (exfalso; omega)
          | (replace HD := Lib.hid HD
             clear hb1 HC HX HF
             go_wp2
             all_goals first
               | (exfalso; have hd := HD.out; omega)
               | (exfalso; have hd := HD.out; clear HD; simp at *; done)
               | (exfalso; have hd := HD.out; clear HD; simp at *; omega)
               | (go_ret; exact RV.mk (by rw [HG.out]; rfl) hB))
    · obtain rfl : k = s.size := by omega
      have HA := Lib.hid (upto_all HX.out)
      clear HX
      go_wp2_with fail
      refine (l1In_any _ _ _ _).mono ?_
      rintro e w1 ⟨rfl, hb⟩
      have hB1 : Below w.heap.size w w1 := Below.on' (by go_grown) hb
      have HE : Hid (nameB s = inB s.size 1 6) := Lib.hid (by rw [nameB, HA.out, Bool.true_and])
      go_wp2
      go_ret
      exact RV.mk (by rw [HE.out]; rfl) hB1
set_option maxHeartbeats 4000000 in
theorem raBody_any (s : ByteArray) (w : World) (hs : s.size ≤ 1048576) : Calls Tryz.prog 138 #[.string s] w (RV w (.bool (bodyB s))) := by
  go_enter Tryz.func138, Tryz.ntmps138
  go_wp2
  go_loopw [3] (fun i wr => ∃ k : Nat, k ≤ s.size ∧ i = .int .i64 k ∧ Hid (∀ i, i < k → bodyAt s i = true) ∧ Below w.heap.size w wr) (fun i _ => s.size - (intOf i).toNat)
  case atStart => exact ⟨0, Nat.zero_le _, rfl, Lib.hid (fun i hi => absurd hi (Nat.not_lt_zero i)), Below.refl _ _⟩
  case round =>
    obtain ⟨k, hk, rfl, HX, hB⟩ := hrel
    by_cases hlt : k < s.size
    · have HC := Lib.hid (bodyAt_iff hlt)
      have HF : Hid (bodyAt s k = false → bodyB s = false) := Lib.hid (fun hb1 => by rw [bodyB, upto_no hlt (by simpa using hb1), Bool.false_and])
      rcases (by omega : ((s[k].toNat : Int) < 48) ∨ (48 ≤ (s[k].toNat : Int) ∧ (s[k].toNat : Int) ≤ 57) ∨ (57 < (s[k].toNat : Int) ∧ (s[k].toNat : Int) < 97) ∨ (97 ≤ (s[k].toNat : Int) ∧ (s[k].toNat : Int) ≤ 122) ∨ (122 < (s[k].toNat : Int))) with z | z | z | z | z
      · have l0 : ¬ 97 ≤ (s[k].toNat : Int) := by omega
        have l1 : (s[k].toNat : Int) ≤ 122 := by omega
        have l2 : ¬ 48 ≤ (s[k].toNat : Int) := by omega
        have l3 : (s[k].toNat : Int) ≤ 57 := by omega
        clear z
        by_cases hb1 : bodyAt s k = true
        · have HX' := Lib.hid (upto_step HX.out hb1)
          have HD := HC.out.1 hb1
          first
          | (exfalso; omega)
          | (replace HD := Lib.hid HD
             clear hb1 HC HX HF
             go_wp2
             all_goals first
               | (exfalso; have hd := HD.out; omega)
               | (exfalso; have hd := HD.out; clear HD; simp at *; done)
               | (exfalso; have hd := HD.out; clear HD; simp at *; omega)
               | (go_roundw
                  case rel => exact ⟨k + 1, by omega, by go_num, HX', hB⟩
                  case measure => simp [intOf]; omega))
        · have HD : ¬ _ := fun h => hb1 (HC.out.2 h)
          have HG := Lib.hid (HF.out (by simpa using hb1))
          first
          | (exfalso; omega)
          | (replace HD := Lib.hid HD
             clear hb1 HC HX HF
             go_wp2
             all_goals first
               | (exfalso; have hd := HD.out; omega)
               | (exfalso; have hd := HD.out; clear HD; simp at *; done)
               | (exfalso; have hd := HD.out; clear HD; simp at *; omega)
               | (go_ret; exact RV.mk (by rw [HG.out]; rfl) hB))
      · have l0 : ¬ 97 ≤ (s[k].toNat : Int) := by omega
        have l1 : (s[k].toNat : Int) ≤ 122 := by omega
        have l2 : 48 ≤ (s[k].toNat : Int) := by omega
        have l3 : (s[k].toNat : Int) ≤ 57 := by omega
        clear z
        by_cases hb1 : bodyAt s k = true
        · have HX' := Lib.hid (upto_step HX.out hb1)
          have HD := HC.out.1 hb1
          first
          | (exfalso; omega)
          | (replace HD := Lib.hid HD
             clear hb1 HC HX HF
             go_wp2
             all_goals first
               | (exfalso; have hd := HD.out; omega)
               | (exfalso; have hd := HD.out; clear HD; simp at *; done)
               | (exfalso; have hd := HD.out; clear HD; simp at *; omega)
               | (go_roundw
                  case rel => exact ⟨k + 1, by omega, by go_num, HX', hB⟩
                  case measure => simp [intOf]; omega))
        · have HD : ¬ _ := fun h => hb1 (HC.out.2 h)
          have HG := Lib.hid (HF.out (by simpa using hb1))
          first
          | (exfalso; omega)
          | (replace HD := Lib.hid HD
             clear hb1 HC HX HF
             go_wp2
             all_goals first
               | (exfalso; have hd := HD.out; omega)
               | (exfalso; have hd := HD.out; clear HD; simp at *; done)
               | (exfalso; have hd := HD.out; clear HD; simp at *; omega)
               | (go_ret; exact RV.mk (by rw [HG.out]; rfl) hB))
      · have l0 : ¬ 97 ≤ (s[k].toNat : Int) := by omega
        have l1 : (s[k].toNat : Int) ≤ 122 := by omega
        have l2 : 48 ≤ (s[k].toNat : Int) := by omega
        have l3 : ¬ (s[k].toNat : Int) ≤ 57 := by omega
        clear z
        by_cases hb1 : bodyAt s k = true
        · have HX' := Lib.hid (upto_step HX.out hb1)
          have HD := HC.out.1 hb1
          first
          | (exfalso; omega)
          | (replace HD := Lib.hid HD
             clear hb1 HC HX HF
             go_wp2
             all_goals first
               | (exfalso; have hd := HD.out; omega)
               | (exfalso; have hd := HD.out; clear HD; simp at *; done)
               | (exfalso; have hd := HD.out; clear HD; simp at *; omega)
               | (go_roundw
                  case rel => exact ⟨k + 1, by omega, by go_num, HX', hB⟩
                  case measure => simp [intOf]; omega))
        · have HD : ¬ _ := fun h => hb1 (HC.out.2 h)
          have HG := Lib.hid (HF.out (by simpa using hb1))
          first
          | (exfalso; omega)
          | (replace HD := Lib.hid HD
             clear hb1 HC HX HF
             go_wp2
             all_goals first
               | (exfalso; have hd := HD.out; omega)
               | (exfalso; have hd := HD.out; clear HD; simp at *; done)
               | (exfalso; have hd := HD.out; clear HD; simp at *; omega)
               | (go_ret; exact RV.mk (by rw [HG.out]; rfl) hB))
      · have l0 : 97 ≤ (s[k].toNat : Int) := by omega
        have l1 : (s[k].toNat : Int) ≤ 122 := by omega
        have l2 : 48 ≤ (s[k].toNat : Int) := by omega
        have l3 : ¬ (s[k].toNat : Int) ≤ 57 := by omega
        clear z
        by_cases hb1 : bodyAt s k = true
        · have HX' := Lib.hid (upto_step HX.out hb1)
          have HD := HC.out.1 hb1
          first
          | (exfalso; omega)
          | (replace HD := Lib.hid HD
             clear hb1 HC HX HF
             go_wp2
             all_goals first
               | (exfalso; have hd := HD.out; omega)
               | (exfalso; have hd := HD.out; clear HD; simp at *; done)
               | (exfalso; have hd := HD.out; clear HD; simp at *; omega)
               | (go_roundw
                  case rel => exact ⟨k + 1, by omega, by go_num, HX', hB⟩
                  case measure => simp [intOf]; omega))
        · have HD : ¬ _ := fun h => hb1 (HC.out.2 h)
          have HG := Lib.hid (HF.out (by simpa using hb1))
          first
          | (exfalso; omega)
          | (replace HD := Lib.hid HD
             clear hb1 HC HX HF
             go_wp2
             all_goals first
               | (exfalso; have hd := HD.out; omega)
               | (exfalso; have hd := HD.out; clear HD; simp at *; done)
               | (exfalso; have hd := HD.out; clear HD; simp at *; omega)
               | (go_ret; exact RV.mk (by rw [HG.out]; rfl) hB))
      · have l0 : 97 ≤ (s[k].toNat : Int) := by omega
        have l1 : ¬ (s[k].toNat : Int) ≤ 122 := by omega
        have l2 : 48 ≤ (s[k].toNat : Int) := by omega
        have l3 : ¬ (s[k].toNat : Int) ≤ 57 := by omega
        clear z
        by_cases hb1 : bodyAt s k = true
        · have HX' := Lib.hid (upto_step HX.out hb1)
          have HD := HC.out.1 hb1
          first
          | (exfalso; omega)
          | (replace HD := Lib.hid HD
             clear hb1 HC HX HF
             go_wp2
             all_goals first
               | (exfalso; have hd := HD.out; omega)
               | (exfalso; have hd := HD.out; clear HD; simp at *; done)
               | (exfalso; have hd := HD.out; clear HD; simp at *; omega)
               | (go_roundw
                  case rel => exact ⟨k + 1, by omega, by go_num, HX', hB⟩
                  case measure => simp [intOf]; omega))
        · have HD : ¬ _ := fun h => hb1 (HC.out.2 h)
          have HG := Lib.hid (HF.out (by simpa using hb1))
          first
          | (exfalso; omega)
          | (replace HD := Lib.hid HD
             clear hb1 HC HX HF
             go_wp2
             all_goals first
               | (exfalso; have hd := HD.out; omega)
               | (exfalso; have hd := HD.out; clear HD; simp at *; done)
               | (exfalso; have hd := HD.out; clear HD; simp at *; omega)
               | (go_ret; exact RV.mk (by rw [HG.out]; rfl) hB))
    · obtain rfl : k = s.size := by omega
      have HA := Lib.hid (upto_all HX.out)
      clear HX
      go_wp2_with fail
      refine (l1In_any _ _ _ _).mono ?_
      rintro e w1 ⟨rfl, hb⟩
      have hB1 : Below w.heap.size w w1 := Below.on' (by go_grown) hb
      have HE : Hid (bodyB s = inB s.size 1 12) := Lib.hid (by rw [bodyB, HA.out, Bool.true_and])
      go_wp2
      go_ret
      exact RV.mk (by rw [HE.out]; rfl) hB1
set_option maxHeartbeats 4000000 in
theorem isBody_any (s : ByteArray) (w : World) (hs : s.size ≤ 1048576) : Calls Tryz.prog 136 #[.string s] w (RV w (.bool (bodyB s))) := by
  go_enter Tryz.func136, Tryz.ntmps136
  go_wp2
  go_loopw [6] (fun i wr => ∃ k : Nat, k ≤ s.size ∧ i = .int .i64 k ∧ Hid (∀ i, i < k → body0 s i = true) ∧ Below w.heap.size w wr) (fun i _ => s.size - (intOf i).toNat)
  case atStart => exact ⟨0, Nat.zero_le _, rfl, Lib.hid (fun i hi => absurd hi (Nat.not_lt_zero i)), Below.refl _ _⟩
  case round =>
    obtain ⟨k, hk, rfl, HX, hB⟩ := hrel
    by_cases hlt : k < s.size
    · have HC := Lib.hid (body0_iff hlt)
      have HF : Hid (body0 s k = false → bodyB s = false) := Lib.hid (fun hb1 => by rw [bodyB, body_ends (by omega), upto_no hlt (by simpa using hb1), Bool.false_and, Bool.false_and])
      rcases (by omega : ((s[k].toNat : Int) < 48) ∨ (48 ≤ (s[k].toNat : Int) ∧ (s[k].toNat : Int) ≤ 57) ∨ (57 < (s[k].toNat : Int) ∧ (s[k].toNat : Int) < 97) ∨ (97 ≤ (s[k].toNat : Int) ∧ (s[k].toNat : Int) ≤ 122) ∨ (122 < (s[k].toNat : Int))) with z | z | z | z | z
      · have l0 : ¬ 97 ≤ (s[k].toNat : Int) := by omega
        have l1 : (s[k].toNat : Int) ≤ 122 := by omega
        have l2 : ¬ 48 ≤ (s[k].toNat : Int) := by omega
        have l3 : (s[k].toNat : Int) ≤ 57 := by omega
        clear z
        by_cases hb1 : body0 s k = true
        · have HX' := Lib.hid (upto_step HX.out hb1)
          have HD := HC.out.1 hb1
          first
          | (exfalso; omega)
          | (replace HD := Lib.hid HD
             clear hb1 HC HX HF
             go_wp2
             all_goals first
               | (exfalso; have hd := HD.out; omega)
               | (exfalso; have hd := HD.out; clear HD; simp at *; done)
               | (exfalso; have hd := HD.out; clear HD; simp at *; omega)
               | (go_roundw
                  case rel => exact ⟨k + 1, by omega, by go_num, HX', hB⟩
                  case measure => simp [intOf]; omega))
        · have HD : ¬ _ := fun h => hb1 (HC.out.2 h)
          have HG := Lib.hid (HF.out (by simpa using hb1))
          first
          | (exfalso; omega)
          | (replace HD := Lib.hid HD
             clear hb1 HC HX HF
             go_wp2
             all_goals first
               | (exfalso; have hd := HD.out; omega)
               | (exfalso; have hd := HD.out; clear HD; simp at *; done)
               | (exfalso; have hd := HD.out; clear HD; simp at *; omega)
               | (go_ret; exact RV.mk (by rw [HG.out]; rfl) hB))
      · have l0 : ¬ 97 ≤ (s[k].toNat : Int) := by omega
        have l1 : (s[k].toNat : Int) ≤ 122 := by omega
        have l2 : 48 ≤ (s[k].toNat : Int) := by omega
        have l3 : (s[k].toNat : Int) ≤ 57 := by omega
        clear z
        by_cases hb1 : body0 s k = true
        · have HX' := Lib.hid (upto_step HX.out hb1)
          have HD := HC.out.1 hb1
          first
          | (exfalso; omega)
          | (replace HD := Lib.hid HD
             clear hb1 HC HX HF
             go_wp2
             all_goals first
               | (exfalso; have hd := HD.out; omega)
               | (exfalso; have hd := HD.out; clear HD; simp at *; done)
               | (exfalso; have hd := HD.out; clear HD; simp at *; omega)
               | (go_roundw
                  case rel => exact ⟨k + 1, by omega, by go_num, HX', hB⟩
                  case measure => simp [intOf]; omega))
        · have HD : ¬ _ := fun h => hb1 (HC.out.2 h)
          have HG := Lib.hid (HF.out (by simpa using hb1))
          first
          | (exfalso; omega)
          | (replace HD := Lib.hid HD
             clear hb1 HC HX HF
             go_wp2
             all_goals first
               | (exfalso; have hd := HD.out; omega)
               | (exfalso; have hd := HD.out; clear HD; simp at *; done)
               | (exfalso; have hd := HD.out; clear HD; simp at *; omega)
               | (go_ret; exact RV.mk (by rw [HG.out]; rfl) hB))
      · have l0 : ¬ 97 ≤ (s[k].toNat : Int) := by omega
        have l1 : (s[k].toNat : Int) ≤ 122 := by omega
        have l2 : 48 ≤ (s[k].toNat : Int) := by omega
        have l3 : ¬ (s[k].toNat : Int) ≤ 57 := by omega
        clear z
        by_cases hb1 : body0 s k = true
        · have HX' := Lib.hid (upto_step HX.out hb1)
          have HD := HC.out.1 hb1
          first
          | (exfalso; omega)
          | (replace HD := Lib.hid HD
             clear hb1 HC HX HF
             go_wp2
             all_goals first
               | (exfalso; have hd := HD.out; omega)
               | (exfalso; have hd := HD.out; clear HD; simp at *; done)
               | (exfalso; have hd := HD.out; clear HD; simp at *; omega)
               | (go_roundw
                  case rel => exact ⟨k + 1, by omega, by go_num, HX', hB⟩
                  case measure => simp [intOf]; omega))
        · have HD : ¬ _ := fun h => hb1 (HC.out.2 h)
          have HG := Lib.hid (HF.out (by simpa using hb1))
          first
          | (exfalso; omega)
          | (replace HD := Lib.hid HD
             clear hb1 HC HX HF
             go_wp2
             all_goals first
               | (exfalso; have hd := HD.out; omega)
               | (exfalso; have hd := HD.out; clear HD; simp at *; done)
               | (exfalso; have hd := HD.out; clear HD; simp at *; omega)
               | (go_ret; exact RV.mk (by rw [HG.out]; rfl) hB))
      · have l0 : 97 ≤ (s[k].toNat : Int) := by omega
        have l1 : (s[k].toNat : Int) ≤ 122 := by omega
        have l2 : 48 ≤ (s[k].toNat : Int) := by omega
        have l3 : ¬ (s[k].toNat : Int) ≤ 57 := by omega
        clear z
        by_cases hb1 : body0 s k = true
        · have HX' := Lib.hid (upto_step HX.out hb1)
          have HD := HC.out.1 hb1
          first
          | (exfalso; omega)
          | (replace HD := Lib.hid HD
             clear hb1 HC HX HF
             go_wp2
             all_goals first
               | (exfalso; have hd := HD.out; omega)
               | (exfalso; have hd := HD.out; clear HD; simp at *; done)
               | (exfalso; have hd := HD.out; clear HD; simp at *; omega)
               | (go_roundw
                  case rel => exact ⟨k + 1, by omega, by go_num, HX', hB⟩
                  case measure => simp [intOf]; omega))
        · have HD : ¬ _ := fun h => hb1 (HC.out.2 h)
          have HG := Lib.hid (HF.out (by simpa using hb1))
          first
          | (exfalso; omega)
          | (replace HD := Lib.hid HD
             clear hb1 HC HX HF
             go_wp2
             all_goals first
               | (exfalso; have hd := HD.out; omega)
               | (exfalso; have hd := HD.out; clear HD; simp at *; done)
               | (exfalso; have hd := HD.out; clear HD; simp at *; omega)
               | (go_ret; exact RV.mk (by rw [HG.out]; rfl) hB))
      · have l0 : 97 ≤ (s[k].toNat : Int) := by omega
        have l1 : ¬ (s[k].toNat : Int) ≤ 122 := by omega
        have l2 : 48 ≤ (s[k].toNat : Int) := by omega
        have l3 : ¬ (s[k].toNat : Int) ≤ 57 := by omega
        clear z
        by_cases hb1 : body0 s k = true
        · have HX' := Lib.hid (upto_step HX.out hb1)
          have HD := HC.out.1 hb1
          first
          | (exfalso; omega)
          | (replace HD := Lib.hid HD
             clear hb1 HC HX HF
             go_wp2
             all_goals first
               | (exfalso; have hd := HD.out; omega)
               | (exfalso; have hd := HD.out; clear HD; simp at *; done)
               | (exfalso; have hd := HD.out; clear HD; simp at *; omega)
               | (go_roundw
                  case rel => exact ⟨k + 1, by omega, by go_num, HX', hB⟩
                  case measure => simp [intOf]; omega))
        · have HD : ¬ _ := fun h => hb1 (HC.out.2 h)
          have HG := Lib.hid (HF.out (by simpa using hb1))
          first
          | (exfalso; omega)
          | (replace HD := Lib.hid HD
             clear hb1 HC HX HF
             go_wp2
             all_goals first
               | (exfalso; have hd := HD.out; omega)
               | (exfalso; have hd := HD.out; clear HD; simp at *; done)
               | (exfalso; have hd := HD.out; clear HD; simp at *; omega)
               | (go_ret; exact RV.mk (by rw [HG.out]; rfl) hB))
    · obtain rfl : k = s.size := by omega
      have HA := Lib.hid (upto_all HX.out)
      clear HX
      go_wp2_with fail
      refine (inside_any _ _ _ _).mono ?_
      rintro e w1 ⟨rfl, hb⟩
      have hB1 : Below w.heap.size w w1 := Below.on' (by go_grown) hb
      by_cases hr : 1 ≤ s.size ∧ (s.size : Int) ≤ 12
      · have hr1 : inB s.size 1 12 = true := by simp [inB]; omega
        have h0 : 0 < s.size := by omega
        have HE : Hid (bodyB s = (decide ((s[0].toNat : Int) ≠ 32) && decide ((s[s.size - 1].toNat : Int) ≠ 32))) := Lib.hid (by rw [bodyB, body_ends h0, HA.out, Bool.true_and, hr1, Bool.and_true])
        go_wp2
        all_goals go_ret
        all_goals exact RV.mk (by rw [HE.out]; first | (simp [*]; done) | (refine vbool ?_; rw [Bool.eq_iff_iff]; simp [*])) hB1
      · have hr1 : inB s.size 1 12 = false := by simp [inB]; omega
        have HF : Hid (bodyB s = false) := Lib.hid (by rw [bodyB, hr1, Bool.and_false])
        go_wp2
        go_ret
        exact RV.mk (by rw [HF.out]; rfl) hB1
def msgB (m : Msg) : Bool := nameB m.f && inB m.n 1 999 && bodyB m.b
def stateB (s : Int) : Bool := inB s 0 5
def appB (a : App) : Bool := nameB a.nm && inB a.kd 0 3 && inB a.nd 0 13 && inB a.cw 1 9 && stateB a.st
set_option maxHeartbeats 1000000 in
theorem isMessage_any (m : Msg) (w : World) (hf : m.f.size ≤ 1048576) (hb0 : m.b.size ≤ 1048576) : Calls Tryz.prog 84 #[.agg #[.string m.f, .int .i64 m.n, .string m.b]] w (RV w (.bool (msgB m))) := by
  go_enter Tryz.func84, Tryz.ntmps84
  go_wp2_with (first
    | (go_at_call 71; refine (isName_any _ _ hf).mono ?_; rintro e w1 ⟨rfl, hb⟩; obtain ⟨hc, hf, hl, hz⟩ := bfam hb; (try simp at hz); (try (have k0 : w.heap.size < w1.heap.size := (by omega))); have hB : Below w.heap.size w w1 := Below.on' (by go_grown) hb; clear hb)
    | (go_at_call 65; refine (inside_any _ _ _ _).mono ?_; rintro e w1 ⟨rfl, hb⟩; obtain ⟨hc, hf, hl, hz⟩ := bfam hb; (try simp at hz); (try (have k0 : w.heap.size < w1.heap.size := (by omega))); have hB : Below w.heap.size w w1 := Below.on' (by go_grown) hb; clear hb)
    | (go_at_call 136; refine (isBody_any _ _ hb0).mono ?_; rintro e w1 ⟨rfl, hb⟩; obtain ⟨hc, hf, hl, hz⟩ := bfam hb; (try simp at hz); (try (have k0 : w.heap.size < w1.heap.size := (by omega))); have hB : Below w.heap.size w w1 := Below.on' (by go_grown) hb; clear hb))
  all_goals go_ret
  all_goals (go_tidy; exact RV.mk (by first | rfl | (simp_all [msgB]; done)) (by first | assumption | go_grown))
set_option maxHeartbeats 1000000 in
theorem raOne_any (m : Msg) (w : World) (hf : m.f.size ≤ 1048576) (hb0 : m.b.size ≤ 1048576) : Calls Tryz.prog 86 #[.agg #[.string m.f, .int .i64 m.n, .string m.b]] w (RV w (.bool (msgB m))) := by
  go_enter Tryz.func86, Tryz.ntmps86
  go_wp2_with (first
    | (go_at_call 82; refine (apName_any _ _ hf).mono ?_; rintro e w1 ⟨rfl, hb⟩; obtain ⟨hc, hf, hl, hz⟩ := bfam hb; (try simp at hz); (try (have k0 : w.heap.size < w1.heap.size := (by omega))); have hB : Below w.heap.size w w1 := Below.on' (by go_grown) hb; clear hb)
    | (go_at_call 69; refine (l1In_any _ _ _ _).mono ?_; rintro e w1 ⟨rfl, hb⟩; obtain ⟨hc, hf, hl, hz⟩ := bfam hb; (try simp at hz); (try (have k0 : w.heap.size < w1.heap.size := (by omega))); have hB : Below w.heap.size w w1 := Below.on' (by go_grown) hb; clear hb)
    | (go_at_call 138; refine (raBody_any _ _ hb0).mono ?_; rintro e w1 ⟨rfl, hb⟩; obtain ⟨hc, hf, hl, hz⟩ := bfam hb; (try simp at hz); (try (have k0 : w.heap.size < w1.heap.size := (by omega))); have hB : Below w.heap.size w w1 := Below.on' (by go_grown) hb; clear hb))
  all_goals go_ret
  all_goals (go_tidy; exact RV.mk (by first | rfl | (simp_all [msgB]; done)) (by first | assumption | go_grown))
set_option maxHeartbeats 1000000 in
theorem isState_any (s : Int) (w : World) : Calls Tryz.prog 101 #[.int .i64 s] w (RV w (.bool (stateB s))) := by
  go_enter Tryz.func101, Tryz.ntmps101
  go_wp2_with (first
    | (go_at_call 65; refine (inside_any _ _ _ _).mono ?_; rintro e w1 ⟨rfl, hb⟩; obtain ⟨hc, hf, hl, hz⟩ := bfam hb; (try simp at hz); (try (have k0 : w.heap.size < w1.heap.size := (by omega))); have hB : Below w.heap.size w w1 := Below.on' (by go_grown) hb; clear hb))
  all_goals go_ret
  all_goals (go_tidy; exact RV.mk (by first | rfl | (simp_all [stateB]; done)) (by first | assumption | go_grown))
set_option maxHeartbeats 1000000 in
theorem apState_any (s : Int) (w : World) : Calls Tryz.prog 125 #[.int .i64 s] w (RV w (.bool (stateB s))) := by
  go_enter Tryz.func125, Tryz.ntmps125
  go_wp2_with (first
    | (go_at_call 69; refine (l1In_any _ _ _ _).mono ?_; rintro e w1 ⟨rfl, hb⟩; obtain ⟨hc, hf, hl, hz⟩ := bfam hb; (try simp at hz); (try (have k0 : w.heap.size < w1.heap.size := (by omega))); have hB : Below w.heap.size w w1 := Below.on' (by go_grown) hb; clear hb))
  all_goals go_ret
  all_goals (go_tidy; exact RV.mk (by first | rfl | (simp_all [stateB]; done)) (by first | assumption | go_grown))
set_option maxHeartbeats 1000000 in
theorem apNode_any (s : Int) (w : World) : Calls Tryz.prog 161 #[.int .i64 s] w (RV w (.bool (inB s 0 13))) := by
  go_enter Tryz.func161, Tryz.ntmps161
  go_wp2_with (first
    | (go_at_call 69; refine (l1In_any _ _ _ _).mono ?_; rintro e w1 ⟨rfl, hb⟩; obtain ⟨hc, hf, hl, hz⟩ := bfam hb; (try simp at hz); (try (have k0 : w.heap.size < w1.heap.size := (by omega))); have hB : Below w.heap.size w w1 := Below.on' (by go_grown) hb; clear hb))
  all_goals go_ret
  all_goals (go_tidy; exact RV.mk (by first | rfl | (simp_all [stateB]; done)) (by first | assumption | go_grown))
set_option maxHeartbeats 1000000 in
theorem isAppliance_any (a : App) (w : World) (hn : a.nm.size ≤ 1048576) : Calls Tryz.prog 148 #[.agg #[.string a.nm, .int .i64 a.kd, .int .i64 a.nd, .int .i64 a.cw, .int .i64 a.st]] w (RV w (.bool (appB a))) := by
  go_enter Tryz.func148, Tryz.ntmps148
  go_wp2_with (first
    | (go_at_call 71; refine (isName_any _ _ hn).mono ?_; rintro e w1 ⟨rfl, hb⟩; obtain ⟨hc, hf, hl, hz⟩ := bfam hb; (try simp at hz); (try (have k0 : w.heap.size < w1.heap.size := (by omega))); have hB : Below w.heap.size w w1 := Below.on' (by go_grown) hb; clear hb)
    | (go_at_call 65; refine (inside_any _ _ _ _).mono ?_; rintro e w1 ⟨rfl, hb⟩; obtain ⟨hc, hf, hl, hz⟩ := bfam hb; (try simp at hz); (try (have k0 : w.heap.size < w1.heap.size := (by omega))); have hB : Below w.heap.size w w1 := Below.on' (by go_grown) hb; clear hb)
    | (go_at_call 101; refine (isState_any _ _).mono ?_; rintro e w1 ⟨rfl, hb⟩; obtain ⟨hc, hf, hl, hz⟩ := bfam hb; (try simp at hz); (try (have k0 : w.heap.size < w1.heap.size := (by omega))); have hB : Below w.heap.size w w1 := Below.on' (by go_grown) hb; clear hb))
  all_goals go_ret
  all_goals (go_tidy; exact RV.mk (by first | rfl | (simp_all [appB]; done)) (by first | assumption | go_grown))
set_option maxHeartbeats 1000000 in
theorem apGood_any (a : App) (w : World) (hn : a.nm.size ≤ 1048576) : Calls Tryz.prog 149 #[.agg #[.string a.nm, .int .i64 a.kd, .int .i64 a.nd, .int .i64 a.cw, .int .i64 a.st]] w (RV w (.bool (appB a))) := by
  go_enter Tryz.func149, Tryz.ntmps149
  go_wp2_with (first
    | (go_at_call 82; refine (apName_any _ _ hn).mono ?_; rintro e w1 ⟨rfl, hb⟩; obtain ⟨hc, hf, hl, hz⟩ := bfam hb; (try simp at hz); (try (have k0 : w.heap.size < w1.heap.size := (by omega))); have hB : Below w.heap.size w w1 := Below.on' (by go_grown) hb; clear hb)
    | (go_at_call 69; refine (l1In_any _ _ _ _).mono ?_; rintro e w1 ⟨rfl, hb⟩; obtain ⟨hc, hf, hl, hz⟩ := bfam hb; (try simp at hz); (try (have k0 : w.heap.size < w1.heap.size := (by omega))); have hB : Below w.heap.size w w1 := Below.on' (by go_grown) hb; clear hb)
    | (go_at_call 161; refine (apNode_any _ _).mono ?_; rintro e w1 ⟨rfl, hb⟩; obtain ⟨hc, hf, hl, hz⟩ := bfam hb; (try simp at hz); (try (have k0 : w.heap.size < w1.heap.size := (by omega))); have hB : Below w.heap.size w w1 := Below.on' (by go_grown) hb; clear hb)
    | (go_at_call 125; refine (apState_any _ _).mono ?_; rintro e w1 ⟨rfl, hb⟩; obtain ⟨hc, hf, hl, hz⟩ := bfam hb; (try simp at hz); (try (have k0 : w.heap.size < w1.heap.size := (by omega))); have hB : Below w.heap.size w w1 := Below.on' (by go_grown) hb; clear hb))
  all_goals go_ret
  all_goals (go_tidy; exact RV.mk (by first | rfl | (simp_all [appB]; done)) (by first | assumption | go_grown))
end Go.Proofs.YtjmjilkpckbpeaaGreatDoor
namespace Go.Proofs.YtjmjilkpckbpeaaGreatDoor
open Go.RowKit

def cntM (l : List Msg) (s : ByteArray) : Nat := (l.filter fun x => decide (x.f.toList = s.toList)).length
def keyP (f : ByteArray) (n : Int) (x : Msg) : Bool := decide (x.f.toList = f.toList) && decide (x.n = n)
theorem keyP_iff {f : ByteArray} {n : Int} {x : Msg} : keyP f n x = true ↔ x.f = f ∧ x.n = n := by
  simp only [keyP, Bool.and_eq_true, decide_eq_true_eq]
  exact ⟨fun h => ⟨toList_inj h.1, h.2⟩, fun h => ⟨by rw [h.1], h.2⟩⟩
def sentAt (l : List Msg) (i : Nat) : Bool := match l[i]? with
  | some m => msgB m && decide (m.n = (cntM (l.take i) m.f : Int) + 1)
  | none => false
def memM (l : List Msg) (m : Msg) : Bool := l.any fun y => Msg.eqB m y
theorem memM_iff {l : List Msg} {m : Msg} : memM l m = true ↔ m ∈ l := by
  rw [memM, List.any_eq_true]
  constructor
  · rintro ⟨y, hy, h⟩; rw [Msg.eqB_iff] at h; subst h; exact hy
  · intro h; exact ⟨m, h, Msg.eqB_iff.2 rfl⟩
def someAt (l all : List Msg) (i : Nat) : Bool := match l[i]? with
  | some m => memM all m && !memM (l.take i) m
  | none => false
def withAt (l all : List Msg) (i : Nat) : Bool := match l[i]? with
  | some m => (match all.find? (keyP m.f m.n) with | some y => Msg.eqB y m | none => false) && !(l.take i).any (keyP m.f m.n)
  | none => false
def sentB (s : List Msg) : Bool := (List.range s.length).all (sentAt s)
def someB (l all : List Msg) : Bool := (List.range l.length).all (someAt l all)
def withB (l all : List Msg) : Bool := (List.range l.length).all (withAt l all)
def chanB (s r h : List Msg) : Bool := sentB s && decide (s.length ≤ 30) && someB r s && someB h r
def chanW (s r h : List Msg) : Bool := sentB s && decide (s.length ≤ 30) && withB r s && withB h r
def KeyU (s : List Msg) : Prop := ∀ x ∈ s, ∀ y ∈ s, x.f = y.f → x.n = y.n → x = y
theorem range_all {n : Nat} {f : Nat → Bool} (h : (List.range n).all f = true) {i : Nat} (hi : i < n) : f i = true := List.all_eq_true.1 h i (List.mem_range.2 hi)
theorem sentB_at {s : List Msg} (h : sentB s = true) {i : Nat} {m : Msg} (hm : s[i]? = some m) : msgB m = true ∧ m.n = (cntM (s.take i) m.f : Int) + 1 := by
  have := range_all h (List.getElem?_eq_some_iff.1 hm).1
  simpa [sentAt, hm] using this
theorem cntM_append (a b : List Msg) (s : ByteArray) : cntM (a ++ b) s = cntM a s + cntM b s := by simp [cntM]
theorem cnt_lt {s : List Msg} {i j : Nat} {x : Msg} (hx : s[i]? = some x) (hij : i < j) : cntM (s.take i) x.f + 1 ≤ cntM (s.take j) x.f := by
  obtain ⟨hi, rfl⟩ := List.getElem?_eq_some_iff.1 hx
  have h1 : s.take j = s.take i ++ (s[i] :: (s.take j).drop (i + 1)) := by
    conv => lhs; rw [← List.take_append_drop i (s.take j)]
    rw [List.take_take, Nat.min_eq_left (by omega), List.drop_eq_getElem_cons (by simp; omega)]
    simp
  rw [h1, cntM_append]
  have : 1 ≤ cntM (s[i] :: (s.take j).drop (i + 1)) s[i].f := by simp [cntM]
  omega
theorem sent_key {s : List Msg} (h : sentB s = true) : KeyU s := by
  intro x hx y hy hf hn
  obtain ⟨i, hi⟩ := List.getElem?_of_mem hx
  obtain ⟨j, hj⟩ := List.getElem?_of_mem hy
  have hxi := (sentB_at h hi).2
  have hyj := (sentB_at h hj).2
  rcases Nat.lt_trichotomy i j with hlt | heq | hlt
  · have := cnt_lt hi hlt
    rw [hf] at this hxi
    omega
  · subst heq; rw [hi] at hj; exact Option.some.inj hj
  · have := cnt_lt hj hlt
    rw [← hf] at this hyj
    omega
theorem find_key {all : List Msg} (hU : KeyU all) (m : Msg) : (match all.find? (keyP m.f m.n) with | some y => Msg.eqB y m | none => false) = memM all m := by
  rw [Bool.eq_iff_iff, memM_iff]
  cases hf : all.find? (keyP m.f m.n) with
  | none =>
    constructor
    · intro h; cases h
    · intro h
      have := List.find?_eq_none.1 hf m h
      exact absurd (keyP_iff.2 ⟨rfl, rfl⟩) this
  | some y =>
    have hy := List.mem_of_find?_eq_some hf
    have hk := keyP_iff.1 (List.find?_some hf)
    constructor
    · intro h
      have e : y = m := Msg.eqB_iff.1 h
      rw [← e]; exact hy
    · intro h
      exact Msg.eqB_iff.2 (hU y hy m h hk.1 hk.2)
theorem any_key {all l : List Msg} (hU : KeyU all) (hl : ∀ x ∈ l, x ∈ all) {m : Msg} (hm : m ∈ all) : l.any (keyP m.f m.n) = memM l m := by
  rw [Bool.eq_iff_iff, memM_iff, List.any_eq_true]
  constructor
  · rintro ⟨x, hx, hk⟩
    have hk := keyP_iff.1 hk
    have := hU x (hl x hx) m hm hk.1 hk.2
    rw [← this]; exact hx
  · intro h; exact ⟨m, h, keyP_iff.2 ⟨rfl, rfl⟩⟩
theorem someB_sub {l all : List Msg} (h : someB l all = true) : ∀ x ∈ l, x ∈ all := by
  intro x hx
  obtain ⟨i, hi⟩ := List.getElem?_of_mem hx
  have := range_all h (List.getElem?_eq_some_iff.1 hi).1
  simp only [someAt, hi, Bool.and_eq_true] at this
  exact memM_iff.1 this.1
theorem withB_sub {l all : List Msg} (hU : KeyU all) (h : withB l all = true) : ∀ x ∈ l, x ∈ all := by
  intro x hx
  obtain ⟨i, hi⟩ := List.getElem?_of_mem hx
  have := range_all h (List.getElem?_eq_some_iff.1 hi).1
  simp only [withAt, hi, Bool.and_eq_true] at this
  rw [find_key hU] at this
  exact memM_iff.1 this.1
theorem with_some {l all : List Msg} (hU : KeyU all) : withB l all = someB l all := by
  have key : (∀ x ∈ l, x ∈ all) → withB l all = someB l all := by
    intro hs
    unfold withB someB
    have e : ∀ i ∈ List.range l.length, withAt l all i = someAt l all i := by
      intro i hi
      have hi := List.mem_range.1 hi
      have hm := List.getElem?_eq_getElem hi
      simp only [withAt, someAt, hm]
      rw [find_key hU, any_key hU (fun x hx => hs x (List.mem_of_mem_take hx)) (hs _ (List.getElem_mem hi))]
    rw [Bool.eq_iff_iff, List.all_eq_true, List.all_eq_true]
    exact ⟨fun h i hi => (e i hi) ▸ h i hi, fun h i hi => (e i hi).symm ▸ h i hi⟩
  rw [Bool.eq_iff_iff]
  constructor
  · intro h; rw [← key (withB_sub hU h)]; exact h
  · intro h; rw [key (someB_sub h)]; exact h
theorem KeyU.sub {l all : List Msg} (hU : KeyU all) (hs : ∀ x ∈ l, x ∈ all) : KeyU l := fun x hx y hy => hU x (hs x hx) y (hs y hy)
theorem chan_eq (s r h : List Msg) : chanW s r h = chanB s r h := by
  unfold chanW chanB
  cases hs : sentB s with
  | false => simp
  | true =>
    have hU := sent_key hs
    rw [with_some hU]
    cases hr : someB r s with
    | false => simp
    | true => rw [with_some (hU.sub (someB_sub hr))]
/-- What a valid channel is good for. -/
structure ChanG (s r h : List Msg) : Prop where
  key : KeyU s
  rs : ∀ x ∈ r, x ∈ s
  hs : ∀ x ∈ h, x ∈ s
  num : ∀ x ∈ s, 1 ≤ x.n ∧ x.n ≤ 999
  len : s.length ≤ 30
theorem ChanG.of {s r h : List Msg} (g : chanB s r h = true) : ChanG s r h := by
  simp only [chanB, Bool.and_eq_true, decide_eq_true_eq] at g
  refine ⟨sent_key g.1.1.1, someB_sub g.1.2, fun x hx => someB_sub g.1.2 x (someB_sub g.2 x hx), fun x hx => ?_, g.1.1.2⟩
  obtain ⟨i, hi⟩ := List.getElem?_of_mem hx
  have := (sentB_at g.1.1.1 hi).1
  simp only [msgB, inB, Bool.and_eq_true, decide_eq_true_eq] at this
  exact this.1.2
/-- A message added to a list if it is not in it. -/
def addM (l : List Msg) (m : Msg) : List Msg := if memM l m = true then l else l ++ [m]
theorem mem_addM {l : List Msg} {m x : Msg} : x ∈ addM l m ↔ x ∈ l ∨ x = m := by
  unfold addM
  split
  · rename_i h
    have := memM_iff.1 h
    exact ⟨.inl, fun h => h.elim id (fun e => e ▸ this)⟩
  · simp
theorem addM_len (l : List Msg) (m : Msg) : (addM l m).length ≤ l.length + 1 := by
  unfold addM; split <;> simp
theorem ChanG.deliver {s r h : List Msg} (g : ChanG s r h) {m : Msg} (hm : m ∈ s) : ChanG s (addM r m) h :=
  ⟨g.key, fun x hx => (mem_addM.1 hx).elim (g.rs x) (fun e => e ▸ hm), g.hs, g.num, g.len⟩
theorem ChanG.confirm {s r h : List Msg} (g : ChanG s r h) {m : Msg} (hm : m ∈ r) : ChanG s r (addM h m) :=
  ⟨g.key, g.rs, fun x hx => (mem_addM.1 hx).elim (g.hs x) (fun e => e ▸ g.rs _ hm), g.num, g.len⟩

theorem find_idx {α : Type} (p : α → Bool) : ∀ (l : List α) (i : Nat), (idxG p l i = -1 ∧ l.find? p = none) ∨ ∃ k x, l[k]? = some x ∧ idxG p l i = ((i + k : Nat) : Int) ∧ l.find? p = some x ∧ p x = true
  | [], _ => .inl ⟨rfl, rfl⟩
  | y :: r, i => by
    by_cases h : p y = true
    · exact .inr ⟨0, y, rfl, by simp [idxG, h], by simp [h], h⟩
    · rcases find_idx p r (i + 1) with ⟨e, ha⟩ | ⟨k, x, hk, e, ht, hp⟩
      · exact .inl ⟨by rw [idxG, if_neg h, e], by simp [h, ha]⟩
      · exact .inr ⟨k + 1, x, by simpa using hk, by rw [idxG, if_neg h, e]; omega, by simp [h, ht], hp⟩
def ordL (r : List Msg) (f : ByteArray) : Nat → Nat → List ByteArray
  | 0, _ => []
  | k + 1, n => match r.find? (keyP f (n : Int)) with
    | some m => m.b :: ordL r f k (n + 1)
    | none => []
def ordF (r : List Msg) (f : ByteArray) : List ByteArray := ordL r f 1000 1
theorem ordL_none {r : List Msg} {f : ByteArray} {n : Nat} (h : r.find? (keyP f (n : Int)) = none) (k : Nat) : ordL r f k n = [] := by
  cases k with
  | zero => rfl
  | succ k => simp [ordL, h]
theorem ordL_some {r : List Msg} {f : ByteArray} {n k : Nat} {m : Msg} (hr : ∀ x ∈ r, x.n ≤ 999) (h : r.find? (keyP f (n : Int)) = some m) (hk : 1000 ≤ k + n) : ∃ k', k = k' + 1 ∧ n ≤ 999 ∧ ordL r f k n = m.b :: ordL r f k' (n + 1) := by
  have hm := hr m (List.mem_of_find?_eq_some h)
  have hn := (keyP_iff.1 (List.find?_some h)).2
  obtain ⟨k', rfl⟩ : ∃ k', k = k' + 1 := ⟨k - 1, by omega⟩
  exact ⟨k', rfl, by omega, by simp [ordL, h]⟩
theorem ordL_at {r : List Msg} {f : ByteArray} : ∀ {k n i : Nat}, i < (ordL r f k n).length → ∃ m, r.find? (keyP f ((n + i : Nat) : Int)) = some m ∧ (ordL r f k n)[i]? = some m.b
  | 0, _, _, h => by simp [ordL] at h
  | k + 1, n, i, h => by
    cases hf : r.find? (keyP f (n : Int)) with
    | none => rw [ordL_none hf] at h; simp at h
    | some m =>
      have e : ordL r f (k + 1) n = m.b :: ordL r f k (n + 1) := by simp [ordL, hf]
      rw [e] at h ⊢
      cases i with
      | zero => exact ⟨m, by simpa using hf, rfl⟩
      | succ i =>
        obtain ⟨m', h1, h2⟩ := ordL_at (k := k) (n := n + 1) (i := i) (by simpa using h)
        exact ⟨m', by rw [← h1]; congr 2; omega, by simpa using h2⟩
theorem ordL_len (r : List Msg) (f : ByteArray) : ∀ k n, (ordL r f k n).length ≤ k
  | 0, _ => by simp [ordL]
  | k + 1, n => by
    unfold ordL
    split
    · have := ordL_len r f k (n + 1); simp; omega
    · simp
theorem ordF_len (r : List Msg) (f : ByteArray) : (ordF r f).length ≤ 1000 := ordL_len r f 1000 1
/-- One round: the message with the next number is there. -/
theorem ordF_next {r : List Msg} {f : ByteArray} (hr : ∀ x ∈ r, x.n ≤ 999) {L : List ByteArray} {n : Nat} (hn : n = L.length + 1) (h : ordF r f = L ++ ordL r f (1000 - L.length) n) {m : Msg} (hm : r.find? (keyP f (n : Int)) = some m) : L.length < 999 ∧ ordF r f = (L ++ [m.b]) ++ ordL r f (1000 - (L ++ [m.b]).length) (n + 1) := by
  obtain ⟨k', e1, e2, e3⟩ := ordL_some hr hm (k := 1000 - L.length) (by omega)
  refine ⟨by omega, ?_⟩
  rw [h, e3, List.append_assoc]
  have : 1000 - (L ++ [m.b]).length = k' := by simp; omega
  rw [this]; rfl
theorem ordF_end {r : List Msg} {f : ByteArray} {L : List ByteArray} {n : Nat} (h : ordF r f = L ++ ordL r f (1000 - L.length) n) (hm : r.find? (keyP f (n : Int)) = none) : ordF r f = L := by
  rw [h, ordL_none hm, List.append_nil]
theorem ordF_find {r : List Msg} {f : ByteArray} (hr : ∀ x ∈ r, x.n ≤ 999) {n : Nat} (h1 : 1 ≤ n) (h2 : n ≤ (ordF r f).length + 1) : (r.find? (keyP f (n : Int))).isSome = decide (n ≤ (ordF r f).length) := by
  rw [Bool.eq_iff_iff, decide_eq_true_eq]
  constructor
  · intro h
    rcases Nat.lt_or_ge (ordF r f).length n with hlt | hge
    · exfalso
      -- n = length + 1: the list ends there
      have key : ∀ k n0, 1000 ≤ k + n0 → (r.find? (keyP f ((n0 + (ordL r f k n0).length : Nat) : Int))) = none := by
        intro k
        induction k with
        | zero =>
          intro n0 hk
          cases hf : r.find? (keyP f ((n0 + (ordL r f 0 n0).length : Nat) : Int)) with
          | none => rfl
          | some m =>
            have hm := hr m (List.mem_of_find?_eq_some hf)
            have hn := (keyP_iff.1 (List.find?_some hf)).2
            omega
        | succ k ih =>
          intro n0 hk
          cases hf : r.find? (keyP f (n0 : Int)) with
          | none => rw [ordL_none hf]; simpa using hf
          | some m =>
            have e : ordL r f (k + 1) n0 = m.b :: ordL r f k (n0 + 1) := by simp [ordL, hf]
            have := ih (n0 + 1) (by omega)
            rw [e, List.length_cons]
            rw [← this]; congr 2; omega
      have := key 1000 1 (by omega)
      have e : n = 1 + (ordL r f 1000 1).length := by unfold ordF at hlt h2; omega
      rw [e, this] at h
      cases h
    · exact hge
  · intro h
    obtain ⟨m, hm, _⟩ := ordL_at (r := r) (f := f) (k := 1000) (n := 1) (i := n - 1) (by unfold ordF at h; omega)
    rw [show 1 + (n - 1) = n by omega] at hm
    rw [hm]; rfl
end Go.Proofs.YtjmjilkpckbpeaaGreatDoor

/- Names and bodies: which strings are names of appliances or bodies of messages; messages and appliances that are valid. Condition: strings of at most 2^20 bytes. -/
import Derived.Test.YtacjdapfbmdddaaMem
import Derived.Test.YtacjdapfbmdddaaNum
import Derived.Test.YtacjdapfbmdddaaMsg
import Derived.Test.YtacjdapfbmdddaaApp
import Derived.Lib.Hide
namespace Go.Proofs.Ytacjdapfbmdddaa
open Go.RowKit

def chr (s : ByteArray) (i : Nat) : Int := ((s.data.toList.getD i 0).toNat : Int)
theorem chr_eq {s : ByteArray} {k : Nat} (hk : k < s.size) : chr s k = (s[k].toNat : Int) := by
  have hk' : k < s.data.toList.length := by simpa using hk
  rw [chr, List.getD_eq_getElem?_getD, List.getElem?_eq_getElem hk']
  rfl
def letC (c : Int) : Bool := decide (97 ≤ c) && decide (c ≤ 122)
def digC (c : Int) : Bool := decide (48 ≤ c) && decide (c ≤ 57)
def nameAt (s : ByteArray) (i : Nat) : Bool := letC (chr s i) || (digC (chr s i) && decide (i ≠ 0))
def nameB (s : ByteArray) : Bool := (List.range s.size).all (nameAt s) && inB s.size 1 6
def bodyAt (s : ByteArray) (i : Nat) : Bool := letC (chr s i) || digC (chr s i) || (decide (chr s i = 32) && decide (i ≠ 0) && decide (i + 1 ≠ s.size))
def body0 (s : ByteArray) (i : Nat) : Bool := letC (chr s i) || digC (chr s i) || decide (chr s i = 32)
def bodyB (s : ByteArray) : Bool := (List.range s.size).all (bodyAt s) && inB s.size 1 12
theorem nameAt_iff {s : ByteArray} {k : Nat} (hk : k < s.size) : nameAt s k = true ↔ (97 ≤ (s[k].toNat : Int) ∧ (s[k].toNat : Int) ≤ 122) ∨ ((48 ≤ (s[k].toNat : Int) ∧ (s[k].toNat : Int) ≤ 57) ∧ k ≠ 0) := by
  rw [nameAt, chr_eq hk]; simp [letC, digC]
theorem bodyAt_iff {s : ByteArray} {k : Nat} (hk : k < s.size) : bodyAt s k = true ↔ (97 ≤ (s[k].toNat : Int) ∧ (s[k].toNat : Int) ≤ 122) ∨ (48 ≤ (s[k].toNat : Int) ∧ (s[k].toNat : Int) ≤ 57) ∨ ((s[k].toNat : Int) = 32 ∧ k ≠ 0 ∧ k + 1 ≠ s.size) := by
  rw [bodyAt, chr_eq hk]; simp [letC, digC, or_assoc, and_assoc]
theorem body0_iff {s : ByteArray} {k : Nat} (hk : k < s.size) : body0 s k = true ↔ (97 ≤ (s[k].toNat : Int) ∧ (s[k].toNat : Int) ≤ 122) ∨ (48 ≤ (s[k].toNat : Int) ∧ (s[k].toNat : Int) ≤ 57) ∨ (s[k].toNat : Int) = 32 := by
  rw [body0, chr_eq hk]; simp [letC, digC, or_assoc]
theorem upto_all {f : Nat → Bool} {n : Nat} (h : ∀ i, i < n → f i = true) : (List.range n).all f = true := List.all_eq_true.2 fun i hi => h i (List.mem_range.1 hi)
theorem upto_no {f : Nat → Bool} {n k : Nat} (hk : k < n) (h : f k = false) : (List.range n).all f = false := by
  rw [Bool.eq_false_iff]
  intro ha
  have := List.all_eq_true.1 ha k (List.mem_range.2 hk)
  rw [h] at this
  cases this
theorem upto_step {f : Nat → Bool} {k : Nat} (h : ∀ i, i < k → f i = true) (hk : f k = true) : ∀ i, i < k + 1 → f i = true := fun i hi => by
  rcases Nat.lt_or_ge i k with h1 | h1
  · exact h i h1
  · obtain rfl : i = k := by omega
    exact hk
theorem body_ends {s : ByteArray} (h0 : 0 < s.size) : (List.range s.size).all (bodyAt s) = ((List.range s.size).all (body0 s) && (decide ((s[0].toNat : Int) ≠ 32) && decide ((s[s.size - 1].toNat : Int) ≠ 32))) := by
  rw [Bool.eq_iff_iff]
  simp only [Bool.and_eq_true, List.all_eq_true, List.mem_range, decide_eq_true_eq]
  constructor
  · intro h
    refine ⟨fun i hi => (body0_iff hi).2 ?_, ?_, ?_⟩
    · rcases (bodyAt_iff hi).1 (h i hi) with h1 | h1 | h1
      · exact .inl h1
      · exact .inr (.inl h1)
      · exact .inr (.inr h1.1)
    · intro e
      rcases (bodyAt_iff h0).1 (h 0 h0) with h1 | h1 | h1
      · omega
      · omega
      · exact h1.2.1 rfl
    · intro e
      have hl : s.size - 1 < s.size := by omega
      rcases (bodyAt_iff hl).1 (h _ hl) with h1 | h1 | h1
      · omega
      · omega
      · exact h1.2.2 (by omega)
  · rintro ⟨h, ha, hb⟩ i hi
    rw [bodyAt_iff hi]
    rcases (body0_iff hi).1 (h i hi) with h1 | h1 | h1
    · exact .inl h1
    · exact .inr (.inl h1)
    · refine .inr (.inr ⟨h1, ?_, ?_⟩)
      · rintro rfl; exact ha h1
      · intro e
        have : i = s.size - 1 := by omega
        subst this
        exact hb h1
set_option maxHeartbeats 4000000 in
theorem isName_any (s : ByteArray) (w : World) (hs : s.size ≤ 1048576) : Calls Try.prog 25 #[.string s] w (RV w (.bool (nameB s))) := by
  go_enter Try.func25, Try.ntmps25
  go_wp2
  go_loopw [8] (fun i wr => ∃ k : Nat, k ≤ s.size ∧ i = .int .i64 k ∧ Hid (∀ i, i < k → nameAt s i = true) ∧ Below w.heap.size w wr) (fun i _ => s.size - (intOf i).toNat)
  case atStart => exact ⟨0, Nat.zero_le _, rfl, Lib.hid (fun i hi => absurd hi (Nat.not_lt_zero i)), Below.refl _ _⟩
  case round =>
    obtain ⟨k, hk, rfl, HX, hB⟩ := hrel
    by_cases hlt : k < s.size
    · have HC := Lib.hid (nameAt_iff hlt)
      have HF : Hid (nameAt s k = false → nameB s = false) := Lib.hid (fun hb1 => by rw [nameB, upto_no hlt (by simpa using hb1), Bool.false_and])
      rcases (by omega : ((s[k].toNat : Int) < 48) ∨ (48 ≤ (s[k].toNat : Int) ∧ (s[k].toNat : Int) ≤ 57 ∧ k = 0) ∨ (48 ≤ (s[k].toNat : Int) ∧ (s[k].toNat : Int) ≤ 57 ∧ k ≠ 0) ∨ (57 < (s[k].toNat : Int) ∧ (s[k].toNat : Int) < 97) ∨ (97 ≤ (s[k].toNat : Int) ∧ (s[k].toNat : Int) ≤ 122) ∨ (122 < (s[k].toNat : Int))) with z | z | z | z | z | z
      · have l0 : ¬ 97 ≤ (s[k].toNat : Int) := by omega
        have l1 : (s[k].toNat : Int) ≤ 122 := by omega
        have l2 : ¬ 48 ≤ (s[k].toNat : Int) := by omega
        have l3 : (s[k].toNat : Int) ≤ 57 := by omega
        clear z
        by_cases hb1 : nameAt s k = true
        · have HX' := Lib.hid (upto_step HX.out hb1)
          have HD := HC.out.1 hb1
          first
          | (exfalso; omega)
          | (replace HD := Lib.hid HD
             clear hb1 HC HX HF
             go_wp2_with fail
             refine wp_region_quiet (C := fun w' => Below wr.heap.size wr w') (by kernel_rfl) (by kernel_rfl) ((Below.refl _ _).drew) ?_
             dsimp only [Array.toList]
             iterate 22
               with_reducible refine wpQuiet_step (fun K hK => ?_)
               go_simp
               try (split <;> first | (exfalso; omega) | skip)
               first
                 | (refine hK _ ?_; clear hK K)
                 | (apply Exists.intro
                    refine ⟨fun w' hw' => ?_, hK _ ?_⟩
                    · go_simp; rfl
                    clear hK K)
             refine wpQuiet_nil ?_
             intro W2 hW2
             replace hB := Below.on' hB hW2
             clear hW2
             go_wp2
             all_goals first
               | (exfalso; have hd := HD.out; omega)
               | (exfalso; have hd := HD.out; clear HD; simp at *; done)
               | (exfalso; have hd := HD.out; clear HD; simp at *; omega)
               | (go_roundw
                  case rel => exact ⟨k + 1, by omega, by go_num, HX', hB⟩
                  case measure => simp [intOf]; omega))
        · have HD : ¬ _ := fun h => hb1 (HC.out.2 h)
          have HG := Lib.hid (HF.out (by simpa using hb1))
          first
          | (exfalso; omega)
          | (replace HD := Lib.hid HD
             clear hb1 HC HX HF
             go_wp2_with fail
             refine wp_region_quiet (C := fun w' => Below wr.heap.size wr w') (by kernel_rfl) (by kernel_rfl) ((Below.refl _ _).drew) ?_
             dsimp only [Array.toList]
             iterate 22
               with_reducible refine wpQuiet_step (fun K hK => ?_)
               go_simp
               try (split <;> first | (exfalso; omega) | skip)
               first
                 | (refine hK _ ?_; clear hK K)
                 | (apply Exists.intro
                    refine ⟨fun w' hw' => ?_, hK _ ?_⟩
                    · go_simp; rfl
                    clear hK K)
             refine wpQuiet_nil ?_
             intro W2 hW2
             replace hB := Below.on' hB hW2
             clear hW2
             go_wp2
             all_goals first
               | (exfalso; have hd := HD.out; omega)
               | (exfalso; have hd := HD.out; clear HD; simp at *; done)
               | (exfalso; have hd := HD.out; clear HD; simp at *; omega)
               | (go_ret; exact RV.mk (by rw [HG.out]; rfl) hB))
      · obtain rfl : k = 0 := by omega
        have l0 : ¬ 97 ≤ (s[0].toNat : Int) := by omega
        have l1 : (s[0].toNat : Int) ≤ 122 := by omega
        have l2 : 48 ≤ (s[0].toNat : Int) := by omega
        have l3 : (s[0].toNat : Int) ≤ 57 := by omega
        clear z
        by_cases hb1 : nameAt s 0 = true
        · have HX' := Lib.hid (upto_step HX.out hb1)
          have HD := HC.out.1 hb1
          first
          | (exfalso; omega)
          | (replace HD := Lib.hid HD
             clear hb1 HC HX HF
             go_wp2_with fail
             refine wp_region_quiet (C := fun w' => Below wr.heap.size wr w') (by kernel_rfl) (by kernel_rfl) ((Below.refl _ _).drew) ?_
             dsimp only [Array.toList]
             iterate 22
               with_reducible refine wpQuiet_step (fun K hK => ?_)
               go_simp
               try (split <;> first | (exfalso; omega) | skip)
               first
                 | (refine hK _ ?_; clear hK K)
                 | (apply Exists.intro
                    refine ⟨fun w' hw' => ?_, hK _ ?_⟩
                    · go_simp; rfl
                    clear hK K)
             refine wpQuiet_nil ?_
             intro W2 hW2
             replace hB := Below.on' hB hW2
             clear hW2
             go_wp2
             all_goals first
               | (exfalso; have hd := HD.out; omega)
               | (exfalso; have hd := HD.out; clear HD; simp at *; done)
               | (exfalso; have hd := HD.out; clear HD; simp at *; omega)
               | (go_roundw
                  case rel => exact ⟨0 + 1, by omega, by go_num, HX', hB⟩
                  case measure => simp [intOf]; omega))
        · have HD : ¬ _ := fun h => hb1 (HC.out.2 h)
          have HG := Lib.hid (HF.out (by simpa using hb1))
          first
          | (exfalso; omega)
          | (replace HD := Lib.hid HD
             clear hb1 HC HX HF
             go_wp2_with fail
             refine wp_region_quiet (C := fun w' => Below wr.heap.size wr w') (by kernel_rfl) (by kernel_rfl) ((Below.refl _ _).drew) ?_
             dsimp only [Array.toList]
             iterate 22
               with_reducible refine wpQuiet_step (fun K hK => ?_)
               go_simp
               try (split <;> first | (exfalso; omega) | skip)
               first
                 | (refine hK _ ?_; clear hK K)
                 | (apply Exists.intro
                    refine ⟨fun w' hw' => ?_, hK _ ?_⟩
                    · go_simp; rfl
                    clear hK K)
             refine wpQuiet_nil ?_
             intro W2 hW2
             replace hB := Below.on' hB hW2
             clear hW2
             go_wp2
             all_goals first
               | (exfalso; have hd := HD.out; omega)
               | (exfalso; have hd := HD.out; clear HD; simp at *; done)
               | (exfalso; have hd := HD.out; clear HD; simp at *; omega)
               | (go_ret; exact RV.mk (by rw [HG.out]; rfl) hB))
      · have l0 : ¬ 97 ≤ (s[k].toNat : Int) := by omega
        have l1 : (s[k].toNat : Int) ≤ 122 := by omega
        have l2 : 48 ≤ (s[k].toNat : Int) := by omega
        have l3 : (s[k].toNat : Int) ≤ 57 := by omega
        have k0 : ¬ k = 0 := by omega
        clear z
        by_cases hb1 : nameAt s k = true
        · have HX' := Lib.hid (upto_step HX.out hb1)
          have HD := HC.out.1 hb1
          first
          | (exfalso; omega)
          | (replace HD := Lib.hid HD
             clear hb1 HC HX HF
             go_wp2_with fail
             refine wp_region_quiet (C := fun w' => Below wr.heap.size wr w') (by kernel_rfl) (by kernel_rfl) ((Below.refl _ _).drew) ?_
             dsimp only [Array.toList]
             iterate 22
               with_reducible refine wpQuiet_step (fun K hK => ?_)
               go_simp
               try (split <;> first | (exfalso; omega) | skip)
               first
                 | (refine hK _ ?_; clear hK K)
                 | (apply Exists.intro
                    refine ⟨fun w' hw' => ?_, hK _ ?_⟩
                    · go_simp; rfl
                    clear hK K)
             refine wpQuiet_nil ?_
             intro W2 hW2
             replace hB := Below.on' hB hW2
             clear hW2
             go_wp2
             all_goals first
               | (exfalso; have hd := HD.out; omega)
               | (exfalso; have hd := HD.out; clear HD; simp at *; done)
               | (exfalso; have hd := HD.out; clear HD; simp at *; omega)
               | (go_roundw
                  case rel => exact ⟨k + 1, by omega, by go_num, HX', hB⟩
                  case measure => simp [intOf]; omega))
        · have HD : ¬ _ := fun h => hb1 (HC.out.2 h)
          have HG := Lib.hid (HF.out (by simpa using hb1))
          first
          | (exfalso; omega)
          | (replace HD := Lib.hid HD
             clear hb1 HC HX HF
             go_wp2_with fail
             refine wp_region_quiet (C := fun w' => Below wr.heap.size wr w') (by kernel_rfl) (by kernel_rfl) ((Below.refl _ _).drew) ?_
             dsimp only [Array.toList]
             iterate 22
               with_reducible refine wpQuiet_step (fun K hK => ?_)
               go_simp
               try (split <;> first | (exfalso; omega) | skip)
               first
                 | (refine hK _ ?_; clear hK K)
                 | (apply Exists.intro
                    refine ⟨fun w' hw' => ?_, hK _ ?_⟩
                    · go_simp; rfl
                    clear hK K)
             refine wpQuiet_nil ?_
             intro W2 hW2
             replace hB := Below.on' hB hW2
             clear hW2
             go_wp2
             all_goals first
               | (exfalso; have hd := HD.out; omega)
               | (exfalso; have hd := HD.out; clear HD; simp at *; done)
               | (exfalso; have hd := HD.out; clear HD; simp at *; omega)
               | (go_ret; exact RV.mk (by rw [HG.out]; rfl) hB))
      · have l0 : ¬ 97 ≤ (s[k].toNat : Int) := by omega
        have l1 : (s[k].toNat : Int) ≤ 122 := by omega
        have l2 : 48 ≤ (s[k].toNat : Int) := by omega
        have l3 : ¬ (s[k].toNat : Int) ≤ 57 := by omega
        clear z
        by_cases hb1 : nameAt s k = true
        · have HX' := Lib.hid (upto_step HX.out hb1)
          have HD := HC.out.1 hb1
          first
          | (exfalso; omega)
          | (replace HD := Lib.hid HD
             clear hb1 HC HX HF
             go_wp2_with fail
             refine wp_region_quiet (C := fun w' => Below wr.heap.size wr w') (by kernel_rfl) (by kernel_rfl) ((Below.refl _ _).drew) ?_
             dsimp only [Array.toList]
             iterate 22
               with_reducible refine wpQuiet_step (fun K hK => ?_)
               go_simp
               try (split <;> first | (exfalso; omega) | skip)
               first
                 | (refine hK _ ?_; clear hK K)
                 | (apply Exists.intro
                    refine ⟨fun w' hw' => ?_, hK _ ?_⟩
                    · go_simp; rfl
                    clear hK K)
             refine wpQuiet_nil ?_
             intro W2 hW2
             replace hB := Below.on' hB hW2
             clear hW2
             go_wp2
             all_goals first
               | (exfalso; have hd := HD.out; omega)
               | (exfalso; have hd := HD.out; clear HD; simp at *; done)
               | (exfalso; have hd := HD.out; clear HD; simp at *; omega)
               | (go_roundw
                  case rel => exact ⟨k + 1, by omega, by go_num, HX', hB⟩
                  case measure => simp [intOf]; omega))
        · have HD : ¬ _ := fun h => hb1 (HC.out.2 h)
          have HG := Lib.hid (HF.out (by simpa using hb1))
          first
          | (exfalso; omega)
          | (replace HD := Lib.hid HD
             clear hb1 HC HX HF
             go_wp2_with fail
             refine wp_region_quiet (C := fun w' => Below wr.heap.size wr w') (by kernel_rfl) (by kernel_rfl) ((Below.refl _ _).drew) ?_
             dsimp only [Array.toList]
             iterate 22
               with_reducible refine wpQuiet_step (fun K hK => ?_)
               go_simp
               try (split <;> first | (exfalso; omega) | skip)
               first
                 | (refine hK _ ?_; clear hK K)
                 | (apply Exists.intro
                    refine ⟨fun w' hw' => ?_, hK _ ?_⟩
                    · go_simp; rfl
                    clear hK K)
             refine wpQuiet_nil ?_
             intro W2 hW2
             replace hB := Below.on' hB hW2
             clear hW2
             go_wp2
             all_goals first
               | (exfalso; have hd := HD.out; omega)
               | (exfalso; have hd := HD.out; clear HD; simp at *; done)
               | (exfalso; have hd := HD.out; clear HD; simp at *; omega)
               | (go_ret; exact RV.mk (by rw [HG.out]; rfl) hB))
      · have l0 : 97 ≤ (s[k].toNat : Int) := by omega
        have l1 : (s[k].toNat : Int) ≤ 122 := by omega
        have l2 : 48 ≤ (s[k].toNat : Int) := by omega
        have l3 : ¬ (s[k].toNat : Int) ≤ 57 := by omega
        clear z
        by_cases hb1 : nameAt s k = true
        · have HX' := Lib.hid (upto_step HX.out hb1)
          have HD := HC.out.1 hb1
          first
          | (exfalso; omega)
          | (replace HD := Lib.hid HD
             clear hb1 HC HX HF
             go_wp2_with fail
             refine wp_region_quiet (C := fun w' => Below wr.heap.size wr w') (by kernel_rfl) (by kernel_rfl) ((Below.refl _ _).drew) ?_
             dsimp only [Array.toList]
             iterate 22
               with_reducible refine wpQuiet_step (fun K hK => ?_)
               go_simp
               try (split <;> first | (exfalso; omega) | skip)
               first
                 | (refine hK _ ?_; clear hK K)
                 | (apply Exists.intro
                    refine ⟨fun w' hw' => ?_, hK _ ?_⟩
                    · go_simp; rfl
                    clear hK K)
             refine wpQuiet_nil ?_
             intro W2 hW2
             replace hB := Below.on' hB hW2
             clear hW2
             go_wp2
             all_goals first
               | (exfalso; have hd := HD.out; omega)
               | (exfalso; have hd := HD.out; clear HD; simp at *; done)
               | (exfalso; have hd := HD.out; clear HD; simp at *; omega)
               | (go_roundw
                  case rel => exact ⟨k + 1, by omega, by go_num, HX', hB⟩
                  case measure => simp [intOf]; omega))
        · have HD : ¬ _ := fun h => hb1 (HC.out.2 h)
          have HG := Lib.hid (HF.out (by simpa using hb1))
          first
          | (exfalso; omega)
          | (replace HD := Lib.hid HD
             clear hb1 HC HX HF
             go_wp2_with fail
             refine wp_region_quiet (C := fun w' => Below wr.heap.size wr w') (by kernel_rfl) (by kernel_rfl) ((Below.refl _ _).drew) ?_
             dsimp only [Array.toList]
             iterate 22
               with_reducible refine wpQuiet_step (fun K hK => ?_)
               go_simp
               try (split <;> first | (exfalso; omega) | skip)
               first
                 | (refine hK _ ?_; clear hK K)
                 | (apply Exists.intro
                    refine ⟨fun w' hw' => ?_, hK _ ?_⟩
                    · go_simp; rfl
                    clear hK K)
             refine wpQuiet_nil ?_
             intro W2 hW2
             replace hB := Below.on' hB hW2
             clear hW2
             go_wp2
             all_goals first
               | (exfalso; have hd := HD.out; omega)
               | (exfalso; have hd := HD.out; clear HD; simp at *; done)
               | (exfalso; have hd := HD.out; clear HD; simp at *; omega)
               | (go_ret; exact RV.mk (by rw [HG.out]; rfl) hB))
      · have l0 : 97 ≤ (s[k].toNat : Int) := by omega
        have l1 : ¬ (s[k].toNat : Int) ≤ 122 := by omega
        have l2 : 48 ≤ (s[k].toNat : Int) := by omega
        have l3 : ¬ (s[k].toNat : Int) ≤ 57 := by omega
        clear z
        by_cases hb1 : nameAt s k = true
        · have HX' := Lib.hid (upto_step HX.out hb1)
          have HD := HC.out.1 hb1
          first
          | (exfalso; omega)
          | (replace HD := Lib.hid HD
             clear hb1 HC HX HF
             go_wp2_with fail
             refine wp_region_quiet (C := fun w' => Below wr.heap.size wr w') (by kernel_rfl) (by kernel_rfl) ((Below.refl _ _).drew) ?_
             dsimp only [Array.toList]
             iterate 22
               with_reducible refine wpQuiet_step (fun K hK => ?_)
               go_simp
               try (split <;> first | (exfalso; omega) | skip)
               first
                 | (refine hK _ ?_; clear hK K)
                 | (apply Exists.intro
                    refine ⟨fun w' hw' => ?_, hK _ ?_⟩
                    · go_simp; rfl
                    clear hK K)
             refine wpQuiet_nil ?_
             intro W2 hW2
             replace hB := Below.on' hB hW2
             clear hW2
             go_wp2
             all_goals first
               | (exfalso; have hd := HD.out; omega)
               | (exfalso; have hd := HD.out; clear HD; simp at *; done)
               | (exfalso; have hd := HD.out; clear HD; simp at *; omega)
               | (go_roundw
                  case rel => exact ⟨k + 1, by omega, by go_num, HX', hB⟩
                  case measure => simp [intOf]; omega))
        · have HD : ¬ _ := fun h => hb1 (HC.out.2 h)
          have HG := Lib.hid (HF.out (by simpa using hb1))
          first
          | (exfalso; omega)
          | (replace HD := Lib.hid HD
             clear hb1 HC HX HF
             go_wp2_with fail
             refine wp_region_quiet (C := fun w' => Below wr.heap.size wr w') (by kernel_rfl) (by kernel_rfl) ((Below.refl _ _).drew) ?_
             dsimp only [Array.toList]
             iterate 22
               with_reducible refine wpQuiet_step (fun K hK => ?_)
               go_simp
               try (split <;> first | (exfalso; omega) | skip)
               first
                 | (refine hK _ ?_; clear hK K)
                 | (apply Exists.intro
                    refine ⟨fun w' hw' => ?_, hK _ ?_⟩
                    · go_simp; rfl
                    clear hK K)
             refine wpQuiet_nil ?_
             intro W2 hW2
             replace hB := Below.on' hB hW2
             clear hW2
             go_wp2
             all_goals first
               | (exfalso; have hd := HD.out; omega)
               | (exfalso; have hd := HD.out; clear HD; simp at *; done)
               | (exfalso; have hd := HD.out; clear HD; simp at *; omega)
               | (go_ret; exact RV.mk (by rw [HG.out]; rfl) hB))
    · obtain rfl : k = s.size := by omega
      have HA := Lib.hid (upto_all HX.out)
      clear HX
      go_wp2_with fail
      refine (inside_any _ _ _ _).mono ?_
      rintro e w1 ⟨rfl, hb⟩
      have hB1 : Below w.heap.size w w1 := Below.on' (by go_grown) hb
      have HE : Hid (nameB s = inB s.size 1 6) := Lib.hid (by rw [nameB, HA.out, Bool.true_and])
      go_wp2
      go_ret
      exact RV.mk (by rw [HE.out]; rfl) hB1
set_option maxHeartbeats 4000000 in
theorem apName_any (s : ByteArray) (w : World) (hs : s.size ≤ 1048576) : Calls Try.prog 29 #[.string s] w (RV w (.bool (nameB s))) := by
  go_enter Try.func29, Try.ntmps29
  go_wp2
  go_loopw [3] (fun i wr => ∃ k : Nat, k ≤ s.size ∧ i = .int .i64 k ∧ Hid (∀ i, i < k → nameAt s i = true) ∧ Below w.heap.size w wr) (fun i _ => s.size - (intOf i).toNat)
  case atStart => exact ⟨0, Nat.zero_le _, rfl, Lib.hid (fun i hi => absurd hi (Nat.not_lt_zero i)), Below.refl _ _⟩
  case round =>
    obtain ⟨k, hk, rfl, HX, hB⟩ := hrel
    by_cases hlt : k < s.size
    · have HC := Lib.hid (nameAt_iff hlt)
      have HF : Hid (nameAt s k = false → nameB s = false) := Lib.hid (fun hb1 => by rw [nameB, upto_no hlt (by simpa using hb1), Bool.false_and])
      rcases (by omega : ((s[k].toNat : Int) < 48) ∨ (48 ≤ (s[k].toNat : Int) ∧ (s[k].toNat : Int) ≤ 57 ∧ k = 0) ∨ (48 ≤ (s[k].toNat : Int) ∧ (s[k].toNat : Int) ≤ 57 ∧ k ≠ 0) ∨ (57 < (s[k].toNat : Int) ∧ (s[k].toNat : Int) < 97) ∨ (97 ≤ (s[k].toNat : Int) ∧ (s[k].toNat : Int) ≤ 122) ∨ (122 < (s[k].toNat : Int))) with z | z | z | z | z | z
      · have l0 : ¬ 97 ≤ (s[k].toNat : Int) := by omega
        have l1 : (s[k].toNat : Int) ≤ 122 := by omega
        have l2 : ¬ 48 ≤ (s[k].toNat : Int) := by omega
        have l3 : (s[k].toNat : Int) ≤ 57 := by omega
        clear z
        by_cases hb1 : nameAt s k = true
        · have HX' := Lib.hid (upto_step HX.out hb1)
          have HD := HC.out.1 hb1
          first
          | (exfalso; omega)
          | (replace HD := Lib.hid HD
             clear hb1 HC HX HF
             go_wp2
             all_goals first
               | (exfalso; have hd := HD.out; omega)
               | (exfalso; have hd := HD.out; clear HD; simp at *; done)
               | (exfalso; have hd := HD.out; clear HD; simp at *; omega)
               | (go_roundw
                  case rel => exact ⟨k + 1, by omega, by go_num, HX', hB⟩
                  case measure => simp [intOf]; omega))
        · have HD : ¬ _ := fun h => hb1 (HC.out.2 h)
          have HG := Lib.hid (HF.out (by simpa using hb1))
          first
          | (exfalso; omega)
          | (replace HD := Lib.hid HD
             clear hb1 HC HX HF
             go_wp2
             all_goals first
               | (exfalso; have hd := HD.out; omega)
               | (exfalso; have hd := HD.out; clear HD; simp at *; done)
               | (exfalso; have hd := HD.out; clear HD; simp at *; omega)
               | (go_ret; exact RV.mk (by rw [HG.out]; rfl) hB))
      · obtain rfl : k = 0 := by omega
        have l0 : ¬ 97 ≤ (s[0].toNat : Int) := by omega
        have l1 : (s[0].toNat : Int) ≤ 122 := by omega
        have l2 : 48 ≤ (s[0].toNat : Int) := by omega
        have l3 : (s[0].toNat : Int) ≤ 57 := by omega
        clear z
        by_cases hb1 : nameAt s 0 = true
        · have HX' := Lib.hid (upto_step HX.out hb1)
          have HD := HC.out.1 hb1
          first
          | (exfalso; omega)
          | (replace HD := Lib.hid HD
             clear hb1 HC HX HF
             go_wp2
             all_goals first
               | (exfalso; have hd := HD.out; omega)
               | (exfalso; have hd := HD.out; clear HD; simp at *; done)
               | (exfalso; have hd := HD.out; clear HD; simp at *; omega)
               | (go_roundw
                  case rel => exact ⟨0 + 1, by omega, by go_num, HX', hB⟩
                  case measure => simp [intOf]; omega))
        · have HD : ¬ _ := fun h => hb1 (HC.out.2 h)
          have HG := Lib.hid (HF.out (by simpa using hb1))
          first
          | (exfalso; omega)
          | (replace HD := Lib.hid HD
             clear hb1 HC HX HF
             go_wp2
             all_goals first
               | (exfalso; have hd := HD.out; omega)
               | (exfalso; have hd := HD.out; clear HD; simp at *; done)
               | (exfalso; have hd := HD.out; clear HD; simp at *; omega)
               | (go_ret; exact RV.mk (by rw [HG.out]; rfl) hB))
      · have l0 : ¬ 97 ≤ (s[k].toNat : Int) := by omega
        have l1 : (s[k].toNat : Int) ≤ 122 := by omega
        have l2 : 48 ≤ (s[k].toNat : Int) := by omega
        have l3 : (s[k].toNat : Int) ≤ 57 := by omega
        have k0 : ¬ k = 0 := by omega
        clear z
        by_cases hb1 : nameAt s k = true
        · have HX' := Lib.hid (upto_step HX.out hb1)
          have HD := HC.out.1 hb1
          first
          | (exfalso; omega)
          | (replace HD := Lib.hid HD
             clear hb1 HC HX HF
             go_wp2
             all_goals first
               | (exfalso; have hd := HD.out; omega)
               | (exfalso; have hd := HD.out; clear HD; simp at *; done)
               | (exfalso; have hd := HD.out; clear HD; simp at *; omega)
               | (go_roundw
                  case rel => exact ⟨k + 1, by omega, by go_num, HX', hB⟩
                  case measure => simp [intOf]; omega))
        · have HD : ¬ _ := fun h => hb1 (HC.out.2 h)
          have HG := Lib.hid (HF.out (by simpa using hb1))
          first
          | (exfalso; omega)
          | (replace HD := Lib.hid HD
             clear hb1 HC HX HF
             go_wp2
             all_goals first
               | (exfalso; have hd := HD.out; omega)
               | (exfalso; have hd := HD.out; clear HD; simp at *; done)
               | (exfalso; have hd := HD.out; clear HD; simp at *; omega)
               | (go_ret; exact RV.mk (by rw [HG.out]; rfl) hB))
      · have l0 : ¬ 97 ≤ (s[k].toNat : Int) := by omega
        have l1 : (s[k].toNat : Int) ≤ 122 := by omega
        have l2 : 48 ≤ (s[k].toNat : Int) := by omega
        have l3 : ¬ (s[k].toNat : Int) ≤ 57 := by omega
        clear z
        by_cases hb1 : nameAt s k = true
        · have HX' := Lib.hid (upto_step HX.out hb1)
          have HD := HC.out.1 hb1
          first
          | (exfalso; omega)
          | (replace HD := Lib.hid HD
             clear hb1 HC HX HF
             go_wp2
             all_goals first
               | (exfalso; have hd := HD.out; omega)
               | (exfalso; have hd := HD.out; clear HD; simp at *; done)
               | (exfalso; have hd := HD.out; clear HD; simp at *; omega)
               | (go_roundw
                  case rel => exact ⟨k + 1, by omega, by go_num, HX', hB⟩
                  case measure => simp [intOf]; omega))
        · have HD : ¬ _ := fun h => hb1 (HC.out.2 h)
          have HG := Lib.hid (HF.out (by simpa using hb1))
          first
          | (exfalso; omega)
          | (replace HD := Lib.hid HD
             clear hb1 HC HX HF
             go_wp2
             all_goals first
               | (exfalso; have hd := HD.out; omega)
               | (exfalso; have hd := HD.out; clear HD; simp at *; done)
               | (exfalso; have hd := HD.out; clear HD; simp at *; omega)
               | (go_ret; exact RV.mk (by rw [HG.out]; rfl) hB))
      · have l0 : 97 ≤ (s[k].toNat : Int) := by omega
        have l1 : (s[k].toNat : Int) ≤ 122 := by omega
        have l2 : 48 ≤ (s[k].toNat : Int) := by omega
        have l3 : ¬ (s[k].toNat : Int) ≤ 57 := by omega
        clear z
        by_cases hb1 : nameAt s k = true
        · have HX' := Lib.hid (upto_step HX.out hb1)
          have HD := HC.out.1 hb1
          first
          | (exfalso; omega)
          | (replace HD := Lib.hid HD
             clear hb1 HC HX HF
             go_wp2
             all_goals first
               | (exfalso; have hd := HD.out; omega)
               | (exfalso; have hd := HD.out; clear HD; simp at *; done)
               | (exfalso; have hd := HD.out; clear HD; simp at *; omega)
               | (go_roundw
                  case rel => exact ⟨k + 1, by omega, by go_num, HX', hB⟩
                  case measure => simp [intOf]; omega))
        · have HD : ¬ _ := fun h => hb1 (HC.out.2 h)
          have HG := Lib.hid (HF.out (by simpa using hb1))
          first
          | (exfalso; omega)
          | (replace HD := Lib.hid HD
             clear hb1 HC HX HF
             go_wp2
             all_goals first
               | (exfalso; have hd := HD.out; omega)
               | (exfalso; have hd := HD.out; clear HD; simp at *; done)
               | (exfalso; have hd := HD.out; clear HD; simp at *; omega)
               | (go_ret; exact RV.mk (by rw [HG.out]; rfl) hB))
      · have l0 : 97 ≤ (s[k].toNat : Int) := by omega
        have l1 : ¬ (s[k].toNat : Int) ≤ 122 := by omega
        have l2 : 48 ≤ (s[k].toNat : Int) := by omega
        have l3 : ¬ (s[k].toNat : Int) ≤ 57 := by omega
        clear z
        by_cases hb1 : nameAt s k = true
        · have HX' := Lib.hid (upto_step HX.out hb1)
          have HD := HC.out.1 hb1
          first
          | (exfalso; omega)
          | (replace HD := Lib.hid HD
             clear hb1 HC HX HF
             go_wp2
             all_goals first
               | (exfalso; have hd := HD.out; omega)
               | (exfalso; have hd := HD.out; clear HD; simp at *; done)
               | (exfalso; have hd := HD.out; clear HD; simp at *; omega)
               | (go_roundw
                  case rel => exact ⟨k + 1, by omega, by go_num, HX', hB⟩
                  case measure => simp [intOf]; omega))
        · have HD : ¬ _ := fun h => hb1 (HC.out.2 h)
          have HG := Lib.hid (HF.out (by simpa using hb1))
          first
          | (exfalso; omega)
          | (replace HD := Lib.hid HD
             clear hb1 HC HX HF
             go_wp2
             all_goals first
               | (exfalso; have hd := HD.out; omega)
               | (exfalso; have hd := HD.out; clear HD; simp at *; done)
               | (exfalso; have hd := HD.out; clear HD; simp at *; omega)
               | (go_ret; exact RV.mk (by rw [HG.out]; rfl) hB))
    · obtain rfl : k = s.size := by omega
      have HA := Lib.hid (upto_all HX.out)
      clear HX
      go_wp2_with fail
      refine (l1In_any _ _ _ _).mono ?_
      rintro e w1 ⟨rfl, hb⟩
      have hB1 : Below w.heap.size w w1 := Below.on' (by go_grown) hb
      have HE : Hid (nameB s = inB s.size 1 6) := Lib.hid (by rw [nameB, HA.out, Bool.true_and])
      go_wp2
      go_ret
      exact RV.mk (by rw [HE.out]; rfl) hB1
set_option maxHeartbeats 4000000 in
theorem raBody_any (s : ByteArray) (w : World) (hs : s.size ≤ 1048576) : Calls Try.prog 30 #[.string s] w (RV w (.bool (bodyB s))) := by
  go_enter Try.func30, Try.ntmps30
  go_wp2
  go_loopw [3] (fun i wr => ∃ k : Nat, k ≤ s.size ∧ i = .int .i64 k ∧ Hid (∀ i, i < k → bodyAt s i = true) ∧ Below w.heap.size w wr) (fun i _ => s.size - (intOf i).toNat)
  case atStart => exact ⟨0, Nat.zero_le _, rfl, Lib.hid (fun i hi => absurd hi (Nat.not_lt_zero i)), Below.refl _ _⟩
  case round =>
    obtain ⟨k, hk, rfl, HX, hB⟩ := hrel
    by_cases hlt : k < s.size
    · have HC := Lib.hid (bodyAt_iff hlt)
      have HF : Hid (bodyAt s k = false → bodyB s = false) := Lib.hid (fun hb1 => by rw [bodyB, upto_no hlt (by simpa using hb1), Bool.false_and])
      rcases (by omega : ((s[k].toNat : Int) < 48) ∨ (48 ≤ (s[k].toNat : Int) ∧ (s[k].toNat : Int) ≤ 57) ∨ (57 < (s[k].toNat : Int) ∧ (s[k].toNat : Int) < 97) ∨ (97 ≤ (s[k].toNat : Int) ∧ (s[k].toNat : Int) ≤ 122) ∨ (122 < (s[k].toNat : Int))) with z | z | z | z | z
      · have l0 : ¬ 97 ≤ (s[k].toNat : Int) := by omega
        have l1 : (s[k].toNat : Int) ≤ 122 := by omega
        have l2 : ¬ 48 ≤ (s[k].toNat : Int) := by omega
        have l3 : (s[k].toNat : Int) ≤ 57 := by omega
        clear z
        by_cases hb1 : bodyAt s k = true
        · have HX' := Lib.hid (upto_step HX.out hb1)
          have HD := HC.out.1 hb1
          first
          | (exfalso; omega)
          | (replace HD := Lib.hid HD
             clear hb1 HC HX HF
             go_wp2
             all_goals first
               | (exfalso; have hd := HD.out; omega)
               | (exfalso; have hd := HD.out; clear HD; simp at *; done)
               | (exfalso; have hd := HD.out; clear HD; simp at *; omega)
               | (go_roundw
                  case rel => exact ⟨k + 1, by omega, by go_num, HX', hB⟩
                  case measure => simp [intOf]; omega))
        · have HD : ¬ _ := fun h => hb1 (HC.out.2 h)
          have HG := Lib.hid (HF.out (by simpa using hb1))
          first
          | (exfalso; omega)
          | (replace HD := Lib.hid HD
             clear hb1 HC HX HF
             go_wp2
             all_goals first
               | (exfalso; have hd := HD.out; omega)
               | (exfalso; have hd := HD.out; clear HD; simp at *; done)
               | (exfalso; have hd := HD.out; clear HD; simp at *; omega)
               | (go_ret; exact RV.mk (by rw [HG.out]; rfl) hB))
      · have l0 : ¬ 97 ≤ (s[k].toNat : Int) := by omega
        have l1 : (s[k].toNat : Int) ≤ 122 := by omega
        have l2 : 48 ≤ (s[k].toNat : Int) := by omega
        have l3 : (s[k].toNat : Int) ≤ 57 := by omega
        clear z
        by_cases hb1 : bodyAt s k = true
        · have HX' := Lib.hid (upto_step HX.out hb1)
          have HD := HC.out.1 hb1
          first
          | (exfalso; omega)
          | (replace HD := Lib.hid HD
             clear hb1 HC HX HF
             go_wp2
             all_goals first
               | (exfalso; have hd := HD.out; omega)
               | (exfalso; have hd := HD.out; clear HD; simp at *; done)
               | (exfalso; have hd := HD.out; clear HD; simp at *; omega)
               | (go_roundw
                  case rel => exact ⟨k + 1, by omega, by go_num, HX', hB⟩
                  case measure => simp [intOf]; omega))
        · have HD : ¬ _ := fun h => hb1 (HC.out.2 h)
          have HG := Lib.hid (HF.out (by simpa using hb1))
          first
          | (exfalso; omega)
          | (replace HD := Lib.hid HD
             clear hb1 HC HX HF
             go_wp2
             all_goals first
               | (exfalso; have hd := HD.out; omega)
               | (exfalso; have hd := HD.out; clear HD; simp at *; done)
               | (exfalso; have hd := HD.out; clear HD; simp at *; omega)
               | (go_ret; exact RV.mk (by rw [HG.out]; rfl) hB))
      · have l0 : ¬ 97 ≤ (s[k].toNat : Int) := by omega
        have l1 : (s[k].toNat : Int) ≤ 122 := by omega
        have l2 : 48 ≤ (s[k].toNat : Int) := by omega
        have l3 : ¬ (s[k].toNat : Int) ≤ 57 := by omega
        clear z
        by_cases hb1 : bodyAt s k = true
        · have HX' := Lib.hid (upto_step HX.out hb1)
          have HD := HC.out.1 hb1
          first
          | (exfalso; omega)
          | (replace HD := Lib.hid HD
             clear hb1 HC HX HF
             go_wp2
             all_goals first
               | (exfalso; have hd := HD.out; omega)
               | (exfalso; have hd := HD.out; clear HD; simp at *; done)
               | (exfalso; have hd := HD.out; clear HD; simp at *; omega)
               | (go_roundw
                  case rel => exact ⟨k + 1, by omega, by go_num, HX', hB⟩
                  case measure => simp [intOf]; omega))
        · have HD : ¬ _ := fun h => hb1 (HC.out.2 h)
          have HG := Lib.hid (HF.out (by simpa using hb1))
          first
          | (exfalso; omega)
          | (replace HD := Lib.hid HD
             clear hb1 HC HX HF
             go_wp2
             all_goals first
               | (exfalso; have hd := HD.out; omega)
               | (exfalso; have hd := HD.out; clear HD; simp at *; done)
               | (exfalso; have hd := HD.out; clear HD; simp at *; omega)
               | (go_ret; exact RV.mk (by rw [HG.out]; rfl) hB))
      · have l0 : 97 ≤ (s[k].toNat : Int) := by omega
        have l1 : (s[k].toNat : Int) ≤ 122 := by omega
        have l2 : 48 ≤ (s[k].toNat : Int) := by omega
        have l3 : ¬ (s[k].toNat : Int) ≤ 57 := by omega
        clear z
        by_cases hb1 : bodyAt s k = true
        · have HX' := Lib.hid (upto_step HX.out hb1)
          have HD := HC.out.1 hb1
          first
          | (exfalso; omega)
          | (replace HD := Lib.hid HD
             clear hb1 HC HX HF
             go_wp2
             all_goals first
               | (exfalso; have hd := HD.out; omega)
               | (exfalso; have hd := HD.out; clear HD; simp at *; done)
               | (exfalso; have hd := HD.out; clear HD; simp at *; omega)
               | (go_roundw
                  case rel => exact ⟨k + 1, by omega, by go_num, HX', hB⟩
                  case measure => simp [intOf]; omega))
        · have HD : ¬ _ := fun h => hb1 (HC.out.2 h)
          have HG := Lib.hid (HF.out (by simpa using hb1))
          first
          | (exfalso; omega)
          | (replace HD := Lib.hid HD
             clear hb1 HC HX HF
             go_wp2
             all_goals first
               | (exfalso; have hd := HD.out; omega)
               | (exfalso; have hd := HD.out; clear HD; simp at *; done)
               | (exfalso; have hd := HD.out; clear HD; simp at *; omega)
               | (go_ret; exact RV.mk (by rw [HG.out]; rfl) hB))
      · have l0 : 97 ≤ (s[k].toNat : Int) := by omega
        have l1 : ¬ (s[k].toNat : Int) ≤ 122 := by omega
        have l2 : 48 ≤ (s[k].toNat : Int) := by omega
        have l3 : ¬ (s[k].toNat : Int) ≤ 57 := by omega
        clear z
        by_cases hb1 : bodyAt s k = true
        · have HX' := Lib.hid (upto_step HX.out hb1)
          have HD := HC.out.1 hb1
          first
          | (exfalso; omega)
          | (replace HD := Lib.hid HD
             clear hb1 HC HX HF
             go_wp2
             all_goals first
               | (exfalso; have hd := HD.out; omega)
               | (exfalso; have hd := HD.out; clear HD; simp at *; done)
               | (exfalso; have hd := HD.out; clear HD; simp at *; omega)
               | (go_roundw
                  case rel => exact ⟨k + 1, by omega, by go_num, HX', hB⟩
                  case measure => simp [intOf]; omega))
        · have HD : ¬ _ := fun h => hb1 (HC.out.2 h)
          have HG := Lib.hid (HF.out (by simpa using hb1))
          first
          | (exfalso; omega)
          | (replace HD := Lib.hid HD
             clear hb1 HC HX HF
             go_wp2
             all_goals first
               | (exfalso; have hd := HD.out; omega)
               | (exfalso; have hd := HD.out; clear HD; simp at *; done)
               | (exfalso; have hd := HD.out; clear HD; simp at *; omega)
               | (go_ret; exact RV.mk (by rw [HG.out]; rfl) hB))
    · obtain rfl : k = s.size := by omega
      have HA := Lib.hid (upto_all HX.out)
      clear HX
      go_wp2_with fail
      refine (l1In_any _ _ _ _).mono ?_
      rintro e w1 ⟨rfl, hb⟩
      have hB1 : Below w.heap.size w w1 := Below.on' (by go_grown) hb
      have HE : Hid (bodyB s = inB s.size 1 12) := Lib.hid (by rw [bodyB, HA.out, Bool.true_and])
      go_wp2
      go_ret
      exact RV.mk (by rw [HE.out]; rfl) hB1
set_option maxHeartbeats 4000000 in
theorem isBody_any (s : ByteArray) (w : World) (hs : s.size ≤ 1048576) : Calls Try.prog 26 #[.string s] w (RV w (.bool (bodyB s))) := by
  go_enter Try.func26, Try.ntmps26
  go_wp2
  go_loopw [6] (fun i wr => ∃ k : Nat, k ≤ s.size ∧ i = .int .i64 k ∧ Hid (∀ i, i < k → body0 s i = true) ∧ Below w.heap.size w wr) (fun i _ => s.size - (intOf i).toNat)
  case atStart => exact ⟨0, Nat.zero_le _, rfl, Lib.hid (fun i hi => absurd hi (Nat.not_lt_zero i)), Below.refl _ _⟩
  case round =>
    obtain ⟨k, hk, rfl, HX, hB⟩ := hrel
    by_cases hlt : k < s.size
    · have HC := Lib.hid (body0_iff hlt)
      have HF : Hid (body0 s k = false → bodyB s = false) := Lib.hid (fun hb1 => by rw [bodyB, body_ends (by omega), upto_no hlt (by simpa using hb1), Bool.false_and, Bool.false_and])
      rcases (by omega : ((s[k].toNat : Int) < 48) ∨ (48 ≤ (s[k].toNat : Int) ∧ (s[k].toNat : Int) ≤ 57) ∨ (57 < (s[k].toNat : Int) ∧ (s[k].toNat : Int) < 97) ∨ (97 ≤ (s[k].toNat : Int) ∧ (s[k].toNat : Int) ≤ 122) ∨ (122 < (s[k].toNat : Int))) with z | z | z | z | z
      · have l0 : ¬ 97 ≤ (s[k].toNat : Int) := by omega
        have l1 : (s[k].toNat : Int) ≤ 122 := by omega
        have l2 : ¬ 48 ≤ (s[k].toNat : Int) := by omega
        have l3 : (s[k].toNat : Int) ≤ 57 := by omega
        clear z
        by_cases hb1 : body0 s k = true
        · have HX' := Lib.hid (upto_step HX.out hb1)
          have HD := HC.out.1 hb1
          first
          | (exfalso; omega)
          | (replace HD := Lib.hid HD
             clear hb1 HC HX HF
             go_wp2
             all_goals first
               | (exfalso; have hd := HD.out; omega)
               | (exfalso; have hd := HD.out; clear HD; simp at *; done)
               | (exfalso; have hd := HD.out; clear HD; simp at *; omega)
               | (go_roundw
                  case rel => exact ⟨k + 1, by omega, by go_num, HX', hB⟩
                  case measure => simp [intOf]; omega))
        · have HD : ¬ _ := fun h => hb1 (HC.out.2 h)
          have HG := Lib.hid (HF.out (by simpa using hb1))
          first
          | (exfalso; omega)
          | (replace HD := Lib.hid HD
             clear hb1 HC HX HF
             go_wp2
             all_goals first
               | (exfalso; have hd := HD.out; omega)
               | (exfalso; have hd := HD.out; clear HD; simp at *; done)
               | (exfalso; have hd := HD.out; clear HD; simp at *; omega)
               | (go_ret; exact RV.mk (by rw [HG.out]; rfl) hB))
      · have l0 : ¬ 97 ≤ (s[k].toNat : Int) := by omega
        have l1 : (s[k].toNat : Int) ≤ 122 := by omega
        have l2 : 48 ≤ (s[k].toNat : Int) := by omega
        have l3 : (s[k].toNat : Int) ≤ 57 := by omega
        clear z
        by_cases hb1 : body0 s k = true
        · have HX' := Lib.hid (upto_step HX.out hb1)
          have HD := HC.out.1 hb1
          first
          | (exfalso; omega)
          | (replace HD := Lib.hid HD
             clear hb1 HC HX HF
             go_wp2
             all_goals first
               | (exfalso; have hd := HD.out; omega)
               | (exfalso; have hd := HD.out; clear HD; simp at *; done)
               | (exfalso; have hd := HD.out; clear HD; simp at *; omega)
               | (go_roundw
                  case rel => exact ⟨k + 1, by omega, by go_num, HX', hB⟩
                  case measure => simp [intOf]; omega))
        · have HD : ¬ _ := fun h => hb1 (HC.out.2 h)
          have HG := Lib.hid (HF.out (by simpa using hb1))
          first
          | (exfalso; omega)
          | (replace HD := Lib.hid HD
             clear hb1 HC HX HF
             go_wp2
             all_goals first
               | (exfalso; have hd := HD.out; omega)
               | (exfalso; have hd := HD.out; clear HD; simp at *; done)
               | (exfalso; have hd := HD.out; clear HD; simp at *; omega)
               | (go_ret; exact RV.mk (by rw [HG.out]; rfl) hB))
      · have l0 : ¬ 97 ≤ (s[k].toNat : Int) := by omega
        have l1 : (s[k].toNat : Int) ≤ 122 := by omega
        have l2 : 48 ≤ (s[k].toNat : Int) := by omega
        have l3 : ¬ (s[k].toNat : Int) ≤ 57 := by omega
        clear z
        by_cases hb1 : body0 s k = true
        · have HX' := Lib.hid (upto_step HX.out hb1)
          have HD := HC.out.1 hb1
          first
          | (exfalso; omega)
          | (replace HD := Lib.hid HD
             clear hb1 HC HX HF
             go_wp2
             all_goals first
               | (exfalso; have hd := HD.out; omega)
               | (exfalso; have hd := HD.out; clear HD; simp at *; done)
               | (exfalso; have hd := HD.out; clear HD; simp at *; omega)
               | (go_roundw
                  case rel => exact ⟨k + 1, by omega, by go_num, HX', hB⟩
                  case measure => simp [intOf]; omega))
        · have HD : ¬ _ := fun h => hb1 (HC.out.2 h)
          have HG := Lib.hid (HF.out (by simpa using hb1))
          first
          | (exfalso; omega)
          | (replace HD := Lib.hid HD
             clear hb1 HC HX HF
             go_wp2
             all_goals first
               | (exfalso; have hd := HD.out; omega)
               | (exfalso; have hd := HD.out; clear HD; simp at *; done)
               | (exfalso; have hd := HD.out; clear HD; simp at *; omega)
               | (go_ret; exact RV.mk (by rw [HG.out]; rfl) hB))
      · have l0 : 97 ≤ (s[k].toNat : Int) := by omega
        have l1 : (s[k].toNat : Int) ≤ 122 := by omega
        have l2 : 48 ≤ (s[k].toNat : Int) := by omega
        have l3 : ¬ (s[k].toNat : Int) ≤ 57 := by omega
        clear z
        by_cases hb1 : body0 s k = true
        · have HX' := Lib.hid (upto_step HX.out hb1)
          have HD := HC.out.1 hb1
          first
          | (exfalso; omega)
          | (replace HD := Lib.hid HD
             clear hb1 HC HX HF
             go_wp2
             all_goals first
               | (exfalso; have hd := HD.out; omega)
               | (exfalso; have hd := HD.out; clear HD; simp at *; done)
               | (exfalso; have hd := HD.out; clear HD; simp at *; omega)
               | (go_roundw
                  case rel => exact ⟨k + 1, by omega, by go_num, HX', hB⟩
                  case measure => simp [intOf]; omega))
        · have HD : ¬ _ := fun h => hb1 (HC.out.2 h)
          have HG := Lib.hid (HF.out (by simpa using hb1))
          first
          | (exfalso; omega)
          | (replace HD := Lib.hid HD
             clear hb1 HC HX HF
             go_wp2
             all_goals first
               | (exfalso; have hd := HD.out; omega)
               | (exfalso; have hd := HD.out; clear HD; simp at *; done)
               | (exfalso; have hd := HD.out; clear HD; simp at *; omega)
               | (go_ret; exact RV.mk (by rw [HG.out]; rfl) hB))
      · have l0 : 97 ≤ (s[k].toNat : Int) := by omega
        have l1 : ¬ (s[k].toNat : Int) ≤ 122 := by omega
        have l2 : 48 ≤ (s[k].toNat : Int) := by omega
        have l3 : ¬ (s[k].toNat : Int) ≤ 57 := by omega
        clear z
        by_cases hb1 : body0 s k = true
        · have HX' := Lib.hid (upto_step HX.out hb1)
          have HD := HC.out.1 hb1
          first
          | (exfalso; omega)
          | (replace HD := Lib.hid HD
             clear hb1 HC HX HF
             go_wp2
             all_goals first
               | (exfalso; have hd := HD.out; omega)
               | (exfalso; have hd := HD.out; clear HD; simp at *; done)
               | (exfalso; have hd := HD.out; clear HD; simp at *; omega)
               | (go_roundw
                  case rel => exact ⟨k + 1, by omega, by go_num, HX', hB⟩
                  case measure => simp [intOf]; omega))
        · have HD : ¬ _ := fun h => hb1 (HC.out.2 h)
          have HG := Lib.hid (HF.out (by simpa using hb1))
          first
          | (exfalso; omega)
          | (replace HD := Lib.hid HD
             clear hb1 HC HX HF
             go_wp2
             all_goals first
               | (exfalso; have hd := HD.out; omega)
               | (exfalso; have hd := HD.out; clear HD; simp at *; done)
               | (exfalso; have hd := HD.out; clear HD; simp at *; omega)
               | (go_ret; exact RV.mk (by rw [HG.out]; rfl) hB))
    · obtain rfl : k = s.size := by omega
      have HA := Lib.hid (upto_all HX.out)
      clear HX
      go_wp2_with fail
      refine (inside_any _ _ _ _).mono ?_
      rintro e w1 ⟨rfl, hb⟩
      have hB1 : Below w.heap.size w w1 := Below.on' (by go_grown) hb
      by_cases hr : 1 ≤ s.size ∧ (s.size : Int) ≤ 12
      · have hr1 : inB s.size 1 12 = true := by simp [inB]; omega
        have h0 : 0 < s.size := by omega
        have HE : Hid (bodyB s = (decide ((s[0].toNat : Int) ≠ 32) && decide ((s[s.size - 1].toNat : Int) ≠ 32))) := Lib.hid (by rw [bodyB, body_ends h0, HA.out, Bool.true_and, hr1, Bool.and_true])
        go_wp2
        all_goals go_ret
        all_goals exact RV.mk (by rw [HE.out]; first | (simp [*]; done) | (refine vbool ?_; rw [Bool.eq_iff_iff]; simp [*])) hB1
      · have hr1 : inB s.size 1 12 = false := by simp [inB]; omega
        have HF : Hid (bodyB s = false) := Lib.hid (by rw [bodyB, hr1, Bool.and_false])
        go_wp2
        go_ret
        exact RV.mk (by rw [HF.out]; rfl) hB1
def msgB (m : Msg) : Bool := nameB m.f && inB m.n 1 999 && bodyB m.b
def stateB (s : Int) : Bool := inB s 0 5
def appB (a : App) : Bool := nameB a.nm && inB a.kd 0 3 && inB a.nd 0 13 && inB a.cw 1 9 && stateB a.st
set_option maxHeartbeats 1000000 in
theorem isMessage_any (m : Msg) (w : World) (hf : m.f.size ≤ 1048576) (hb0 : m.b.size ≤ 1048576) : Calls Try.prog 47 #[.agg #[.string m.f, .int .i64 m.n, .string m.b]] w (RV w (.bool (msgB m))) := by
  go_enter Try.func47, Try.ntmps47
  go_wp2_with (first
    | (go_at_call 25; refine (isName_any _ _ hf).mono ?_; rintro e w1 ⟨rfl, hb⟩; obtain ⟨hc, hf, hl, hz⟩ := bfam hb; (try simp at hz); (try (have k0 : w.heap.size < w1.heap.size := (by omega))); have hB : Below w.heap.size w w1 := Below.on' (by go_grown) hb; clear hb)
    | (go_at_call 49; refine (inside_any _ _ _ _).mono ?_; rintro e w1 ⟨rfl, hb⟩; obtain ⟨hc, hf, hl, hz⟩ := bfam hb; (try simp at hz); (try (have k0 : w.heap.size < w1.heap.size := (by omega))); have hB : Below w.heap.size w w1 := Below.on' (by go_grown) hb; clear hb)
    | (go_at_call 26; refine (isBody_any _ _ hb0).mono ?_; rintro e w1 ⟨rfl, hb⟩; obtain ⟨hc, hf, hl, hz⟩ := bfam hb; (try simp at hz); (try (have k0 : w.heap.size < w1.heap.size := (by omega))); have hB : Below w.heap.size w w1 := Below.on' (by go_grown) hb; clear hb))
  all_goals go_ret
  all_goals (go_tidy; exact RV.mk (by first | rfl | (simp_all [msgB]; done)) (by first | assumption | go_grown))
set_option maxHeartbeats 1000000 in
theorem raOne_any (m : Msg) (w : World) (hf : m.f.size ≤ 1048576) (hb0 : m.b.size ≤ 1048576) : Calls Try.prog 50 #[.agg #[.string m.f, .int .i64 m.n, .string m.b]] w (RV w (.bool (msgB m))) := by
  go_enter Try.func50, Try.ntmps50
  go_wp2_with (first
    | (go_at_call 29; refine (apName_any _ _ hf).mono ?_; rintro e w1 ⟨rfl, hb⟩; obtain ⟨hc, hf, hl, hz⟩ := bfam hb; (try simp at hz); (try (have k0 : w.heap.size < w1.heap.size := (by omega))); have hB : Below w.heap.size w w1 := Below.on' (by go_grown) hb; clear hb)
    | (go_at_call 52; refine (l1In_any _ _ _ _).mono ?_; rintro e w1 ⟨rfl, hb⟩; obtain ⟨hc, hf, hl, hz⟩ := bfam hb; (try simp at hz); (try (have k0 : w.heap.size < w1.heap.size := (by omega))); have hB : Below w.heap.size w w1 := Below.on' (by go_grown) hb; clear hb)
    | (go_at_call 30; refine (raBody_any _ _ hb0).mono ?_; rintro e w1 ⟨rfl, hb⟩; obtain ⟨hc, hf, hl, hz⟩ := bfam hb; (try simp at hz); (try (have k0 : w.heap.size < w1.heap.size := (by omega))); have hB : Below w.heap.size w w1 := Below.on' (by go_grown) hb; clear hb))
  all_goals go_ret
  all_goals (go_tidy; exact RV.mk (by first | rfl | (simp_all [msgB]; done)) (by first | assumption | go_grown))
end Go.Proofs.Ytacjdapfbmdddaa

/- Leases: what holds between the answers of single calls. Plain Lean: no program walked. No conditions. -/
import Derived.Test.YtacjdapfbmdddaaDoorLeaB
namespace Go.Proofs.YtacjdapfbmdddaaDoor
open Go.RowKit

theorem asks_in {h u r m s : Int} (g : asksB h u r m s = true) : (0 ≤ h ∧ h ≤ 2) ∧ (0 ≤ u ∧ u ≤ 99999) ∧ (0 < h ∨ u = 0) ∧ (1 ≤ r ∧ r ≤ 2) ∧ (0 ≤ m ∧ m ≤ 99999) ∧ (0 ≤ s ∧ s ≤ 10) := by
  simp only [asksB, leaseB, minB, roomB, inB, Bool.and_eq_true, Bool.or_eq_true, decide_eq_true_eq] at g
  omega
theorem asks_of {h u r m s : Int} (g : (0 ≤ h ∧ h ≤ 2) ∧ (0 ≤ u ∧ u ≤ 99999) ∧ (0 < h ∨ u = 0) ∧ (1 ≤ r ∧ r ≤ 2) ∧ (0 ≤ m ∧ m ≤ 99999) ∧ (0 ≤ s ∧ s ≤ 10)) : asksB h u r m s = true := by
  simp only [asksB, leaseB, minB, roomB, inB, Bool.and_eq_true, Bool.or_eq_true, decide_eq_true_eq]
  omega
theorem wrap_small {x : Int} (h : -1000000 ≤ x ∧ x ≤ 1000000) : wrap64 x = x := by unfold wrap64; omega
theorem give_may (h u r m s : Int) : (giveF h u r m s).2 = ((mayF h u r m s).2 && (mayF h u r m s).1) := by
  unfold giveF mayF
  cases asksB h u r m s <;> simp
theorem may_both {h u r m s : Int} (g : ((mayF h u r m s).2 && (mayF h u r m s).1) = true) : asksB h u r m s = true ∧ heldB h u r m s = true := by
  rw [← give_may] at g
  simpa [giveF] using g
theorem renew_may {h u r m s l : Int} (g : (renewF h u r m s l).2 = true) : (mayF h u r m s).1 = true := by
  unfold renewF at g
  split at g
  · rename_i k
    simp only [Bool.and_eq_true] at k
    unfold renewG at g
    split at g
    · rename_i k2
      rw [mayF, if_pos k.1]; exact k2
    · cases g
  · cases g
/-- Where a room may send, the other may not, the room holds the lease, and the other's wish is refused. -/
theorem may_other {h u r m s : Int} (g : ((mayF h u r m s).2 && (mayF h u r m s).1) = true) : mayF h u (wrap64 (3 - r)) m s = (false, true) ∧ holdF h u m = (r, true) ∧ (takeF h u (wrap64 (3 - r)) m s 1).2 = false := by
  obtain ⟨g1, g2⟩ := may_both g
  obtain ⟨hh, hu, hz, hr, hm, hs⟩ := asks_in g1
  simp only [heldB, Bool.and_eq_true, decide_eq_true_eq] at g2
  rw [wrap_small (by omega)] at g2
  obtain ⟨rfl, g3⟩ := g2
  rw [wrap_small (by omega)]
  have a2 : asksB h u (3 - h) m s = true := asks_of (by omega)
  refine ⟨?_, ?_, ?_⟩
  · rw [mayF, if_pos a2]
    have : heldB h u (3 - h) m s = false := by
      simp only [heldB, Bool.and_eq_false_iff, decide_eq_false_iff_not]
      omega
    rw [this]
  · unfold holdF
    rw [if_pos (by simp only [leaseB, minB, inB, Bool.and_eq_true, Bool.or_eq_true, decide_eq_true_eq]; omega), if_pos (by omega)]
  · unfold takeF
    split
    · unfold takeG
      rw [if_neg]
      simp only [overB, decide_eq_true_eq]
      rw [wrap_small (by omega)]
      omega
    · rfl
theorem take_may {h u r m s l : Int} (g : (takeF h u r m s l).2 = true) : mayF (takeF h u r m s l).1.1 (takeF h u r m s l).1.2 r m s = (decide (s < l), true) ∧ (takeF h u r m s l).1.1 = r ∧ (takeF h u r m s l).1.2 = wrap64 (m + l) := by
  unfold takeF at g ⊢
  split at g
  · rename_i k
    rw [if_pos k]
    simp only [Bool.and_eq_true] at k
    obtain ⟨hh, hu, hz, hr, hm, hs⟩ := asks_in k.1
    have hl := k.2
    simp only [lenB, inB, Bool.and_eq_true, decide_eq_true_eq] at hl
    unfold takeG at g ⊢
    split at g
    · rename_i k2
      rw [if_pos k2]
      unfold leaseRes at g ⊢
      split at g
      · rename_i k3
        rw [if_pos k3]
        simp only [leaseB, minB, inB, Bool.and_eq_true, Bool.or_eq_true, decide_eq_true_eq] at k3
        rw [wrap_small (by omega)] at k3 ⊢
        refine ⟨?_, rfl, rfl⟩
        have a2 : asksB r (m + l) r m s = true := asks_of (by omega)
        dsimp only
        rw [mayF, if_pos a2]
        congr 1
        simp only [heldB, decide_true, Bool.true_and]
        rw [wrap_small (by omega)]
        congr 1
        exact propext ⟨fun e => by omega, fun e => by omega⟩
      · cases g
    · cases g
  · cases g
theorem renew_res {h u r m s l : Int} (g : (renewF h u r m s l).2 = true) : ¬ (renewF h u r m s l).1.2 < u ∧ (renewF h u r m s l).1.1 = r := by
  unfold renewF at g ⊢
  split at g
  · rename_i k
    rw [if_pos k]
    unfold renewG at g ⊢
    split at g
    · rename_i k2
      rw [if_pos k2]
      unfold leaseRes at g ⊢
      split at g
      · rename_i k3
        rw [if_pos k3]
        refine ⟨?_, rfl⟩
        dsimp only
        unfold maxI
        split <;> omega
      · cases g
    · cases g
  · cases g
theorem give_res (h u r m s : Int) : (giveF h u r m s).1 = (0, 0) := rfl
theorem early_take {h u r s : Int} (_g1 : (earlyF h u r s).2 = true) (g2 : 0 < (earlyF h u r s).1) : (takeF h u r (wrap64 ((earlyF h u r s).1 - 1)) s 1).2 = false := by
  have key : (earlyF h u r s).1 = wrap64 (u + s) ∧ h ≠ 0 ∧ h ≠ r ∧ minB (wrap64 (u + s)) = true := by
    unfold earlyF at _g1 g2 ⊢
    repeat' split at _g1
    all_goals simp_all
  obtain ⟨k1, k2, k3, k4⟩ := key
  rw [k1]
  simp only [minB, inB, Bool.and_eq_true, decide_eq_true_eq] at k4
  rw [k1] at g2
  unfold takeF
  split
  · rename_i k
    unfold takeG
    rw [if_neg]
    simp only [overB, decide_eq_true_eq]
    rw [wrap_small (x := wrap64 (u + s) - 1) (by omega)]
    omega
  · rfl
theorem hold_in {h u m : Int} (g : (holdF h u m).2 = true) : 0 ≤ (holdF h u m).1 ∧ (holdF h u m).1 ≤ 2 := by
  unfold holdF at g ⊢
  split at g
  · rename_i k
    rw [if_pos k]
    simp only [leaseB, minB, inB, Bool.and_eq_true, Bool.or_eq_true, decide_eq_true_eq] at k
    split <;> dsimp only <;> omega
  · cases g
end Go.Proofs.YtacjdapfbmdddaaDoor

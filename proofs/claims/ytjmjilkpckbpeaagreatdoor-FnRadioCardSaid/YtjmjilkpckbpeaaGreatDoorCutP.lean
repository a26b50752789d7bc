/- Cutting and splitting lists of bytes at one byte. Plain Lean: no program. No conditions. -/
import Derived.Test.YtjmjilkpckbpeaaGreatDoorDecP
import Derived.Lib.Split
namespace Go.Proofs.YtjmjilkpckbpeaaGreatDoor

theorem split_mem {b : UInt8} : ∀ {l : List UInt8}, b ∈ l → ∃ p r, l = p ++ b :: r ∧ b ∉ p
  | [], h => by cases h
  | c :: l, h => by
    by_cases hc : b = c
    · exact ⟨[], l, by rw [hc]; rfl, by simp⟩
    · rcases List.mem_cons.1 h with h' | h'
      · exact absurd h' hc
      · obtain ⟨p, r, e, hp⟩ := split_mem h'
        exact ⟨c :: p, r, by rw [e]; rfl, by simp [hc, hp]⟩
theorem idx_first {b : UInt8} : ∀ (p r : List UInt8), b ∉ p → Lib.index (p ++ b :: r) [b] = p.length
  | [], r, _ => by rw [Lib.index_one]; simp [Lib.indexByte]
  | c :: p, r, h => by
    have h1 : ¬ c = b := fun e => h (by simp [e])
    have ih := idx_first p r (fun hh => h (List.mem_cons_of_mem _ hh))
    rw [Lib.index_one] at ih ⊢
    show (if (c == b) = true then (0 : Int) else if (Lib.indexByte (p ++ b :: r) b == -1) = true then -1 else Lib.indexByte (p ++ b :: r) b + 1) = _
    rw [ih, if_neg (by simpa using h1), if_neg (by simp)]
    simp
theorem idx_none {b : UInt8} : ∀ (p : List UInt8), b ∉ p → Lib.index p [b] = -1
  | [], _ => by rw [Lib.index_one]; rfl
  | c :: p, h => by
    have h1 : ¬ c = b := fun e => h (by simp [e])
    have ih := idx_none p (fun hh => h (List.mem_cons_of_mem _ hh))
    rw [Lib.index_one] at ih ⊢
    show (if (c == b) = true then (0 : Int) else if (Lib.indexByte p b == -1) = true then -1 else Lib.indexByte p b + 1) = _
    rw [ih, if_neg (by simpa using h1)]
    simp
theorem cut_first {b : UInt8} (p r : List UInt8) (h : b ∉ p) : Lib.cut (p ++ b :: r) [b] = (p, r, true) := by
  unfold Lib.cut
  rw [idx_first p r h, if_pos (by omega)]
  simp
theorem cut_none {b : UInt8} (p : List UInt8) (h : b ∉ p) : Lib.cut p [b] = (p, [], false) := by
  unfold Lib.cut
  rw [idx_none p h, if_neg (by omega)]
theorem cut_len1 (s t : List UInt8) : (Lib.cut s t).1.length ≤ s.length := by
  unfold Lib.cut
  split
  · simp; omega
  · simp
theorem cut_len2 (s t : List UInt8) : (Lib.cut s t).2.1.length ≤ s.length := by
  unfold Lib.cut
  split
  · simp
  · simp

/-- The pieces of a list between the bytes b; each piece but the last ends in t. -/
def splitS (b : UInt8) (t : List UInt8) : List UInt8 → List (List UInt8)
  | [] => [[]]
  | c :: r => if c = b then t :: splitS b t r else (c :: (splitS b t r).headD []) :: (splitS b t r).tail
theorem splitS_none {b : UInt8} (t : List UInt8) : ∀ {p : List UInt8}, b ∉ p → splitS b t p = [p]
  | [], _ => rfl
  | c :: p, h => by
    have h1 : ¬ c = b := fun e => h (by simp [e])
    rw [splitS, if_neg h1, splitS_none t (fun hh => h (List.mem_cons_of_mem _ hh))]
    rfl
theorem splitS_cut {b : UInt8} (t : List UInt8) : ∀ {p : List UInt8} (r : List UInt8), b ∉ p → splitS b t (p ++ b :: r) = (p ++ t) :: splitS b t r
  | [], r, _ => by simp [splitS]
  | c :: p, r, h => by
    have h1 : ¬ c = b := fun e => h (by simp [e])
    rw [List.cons_append, splitS, if_neg h1, splitS_cut t r (fun hh => h (List.mem_cons_of_mem _ hh))]
    rfl
theorem splitS_ne (b : UInt8) (t l : List UInt8) : splitS b t l ≠ [] := by
  cases l with
  | nil => simp [splitS]
  | cons c r => rw [splitS]; split <;> simp
theorem splitK_eq (b : UInt8) (t : List UInt8) (ht : t = [] ∨ t = [b]) (s : List UInt8) : Lib.splitK [b] t.length (Lib.count s [b]) s = splitS b t s := by
  by_cases h : b ∈ s
  · obtain ⟨p, r, e, hp⟩ := split_mem h
    have hlt : r.length < s.length := by rw [e, List.length_append, List.length_cons]; omega
    have ih := splitK_eq b t ht r
    subst e
    have hi := idx_first p r hp
    have hd : (p ++ b :: r).drop (p.length + 1) = r := by
      rw [← List.drop_drop, List.drop_left]
      rfl
    have hk : (p ++ b :: r).take (p.length + t.length) = p ++ t := by
      rcases ht with rfl | rfl
      · simp
      · rw [List.take_append, List.take_of_length_le (by simp)]; simp
    rw [Lib.count_hit (by simp) hi, splitS_cut t r hp, Nat.add_comm 1, Lib.splitK, if_neg (by rw [hi]; simp), hi]
    simp only [Int.toNat_natCast, List.length_singleton]
    rw [hd, ih, hk]
  · rw [Lib.count_miss (idx_none s h), splitS_none t h]
    rfl
termination_by s.length
decreasing_by assumption
end Go.Proofs.YtjmjilkpckbpeaaGreatDoor

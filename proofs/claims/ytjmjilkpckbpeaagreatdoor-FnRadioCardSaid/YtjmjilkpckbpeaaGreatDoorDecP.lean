/- Decimal numerals as lists of bytes: reading back what decDigits writes; the first place of a byte in a list. Plain Lean: no program. No conditions. -/
import Derived.Test.YtjmjilkpckbpeaaGreatDoorRows
import Derived.Lib.ItoaMem
import Derived.Lib.AtoiTie
namespace Go.Proofs.YtjmjilkpckbpeaaGreatDoor

theorem dec_small {n : Nat} (h : n < 10) : Lib.decDigits n = [UInt8.ofNat (48 + n)] := by rw [Lib.decDigits, dif_pos h]
theorem dec_big {n : Nat} (h : ¬ n < 10) : Lib.decDigits n = Lib.decDigits (n / 10) ++ [UInt8.ofNat (48 + n % 10)] := by rw [Lib.decDigits, dif_neg h]
theorem dig_nat {d : Nat} (h : d < 10) : (UInt8.ofNat (48 + d)).toNat = 48 + d := by rw [UInt8.toNat_ofNat']; omega
theorem dec_bytes (n : Nat) : ∀ c ∈ Lib.decDigits n, 48 ≤ c.toNat ∧ c.toNat ≤ 57 := by
  induction n using Nat.strongRecOn with
  | _ n ih =>
    intro c hc
    by_cases h : n < 10
    · rw [dec_small h] at hc
      obtain rfl := List.mem_singleton.1 hc
      rw [dig_nat h]; omega
    · rw [dec_big h] at hc
      rcases List.mem_append.1 hc with hc | hc
      · exact ih _ (by omega) c hc
      · obtain rfl := List.mem_singleton.1 hc
        rw [dig_nat (Nat.mod_lt _ (by decide))]; omega
theorem dec_ne (n : Nat) : Lib.decDigits n ≠ [] := by
  by_cases h : n < 10
  · rw [dec_small h]; simp
  · rw [dec_big h]; simp
theorem dec_len {n k : Nat} (hk : 1 ≤ k) (h : n < 10 ^ k) : (Lib.decDigits n).length ≤ k := by
  induction k generalizing n with
  | zero => omega
  | succ k ih =>
    by_cases hn : n < 10
    · rw [dec_small hn]; simp
    · rw [dec_big hn, List.length_append]
      rcases Nat.eq_zero_or_pos k with rfl | hk'
      · simp at h; omega
      · have := ih hk' (n := n / 10) (by rw [Nat.pow_succ] at h; omega)
        simp; omega
theorem dec_pos_len (n : Nat) : 1 ≤ (Lib.decDigits n).length := by
  have := dec_ne n
  cases h : Lib.decDigits n with
  | nil => exact absurd h this
  | cons => simp
theorem dec_head {n : Nat} (h : 1 ≤ n) : (Lib.decDigits n).head? ≠ some 48 := by
  induction n using Nat.strongRecOn with
  | _ n ih =>
    by_cases hn : n < 10
    · rw [dec_small hn]
      simp only [List.head?_cons, ne_eq, Option.some.injEq]
      intro e
      have := congrArg UInt8.toNat e
      rw [dig_nat hn] at this
      have e48 : (48 : UInt8).toNat = 48 := rfl
      omega
    · have h2 := ih (n / 10) (by omega) (by omega)
      rw [dec_big hn]
      cases e : Lib.decDigits (n / 10) with
      | nil => exact absurd e (dec_ne _)
      | cons c r => rw [e] at h2; exact h2
/-- The number that digits spell. -/
def valD (l : List UInt8) : Nat := l.foldl (fun a c => a * 10 + (c.toNat - 48)) 0
theorem valD_snoc (l : List UInt8) (c : UInt8) : valD (l ++ [c]) = valD l * 10 + (c.toNat - 48) := by simp [valD, List.foldl_append]
theorem valD_dec (n : Nat) : valD (Lib.decDigits n) = n := by
  induction n using Nat.strongRecOn with
  | _ n ih =>
    by_cases hn : n < 10
    · rw [dec_small hn]
      show 0 * 10 + ((UInt8.ofNat (48 + n)).toNat - 48) = n
      rw [dig_nat hn]; omega
    · rw [dec_big hn, valD_snoc, ih (n / 10) (by omega), dig_nat (Nat.mod_lt _ (by decide))]; omega
theorem dec_inj {n m : Nat} (h : Lib.decDigits n = Lib.decDigits m) : n = m := by rw [← valD_dec n, ← valD_dec m, h]
theorem parse_snoc : ∀ (l : List UInt8) (acc u : Nat) (c : UInt8), Lib.parseUint10 acc l = .ok u → 48 ≤ c.toNat ∧ c.toNat ≤ 57 → u * 10 + (c.toNat - 48) < 9223372036854775808 → Lib.parseUint10 acc (l ++ [c]) = .ok (u * 10 + (c.toNat - 48))
  | [], acc, u, c, h, hc, hb => by
    simp only [Lib.parseUint10] at h
    injection h with h
    subst h
    simp only [List.nil_append, Lib.parseUint10, if_pos hc]
    rw [if_neg (by omega), if_neg (by omega)]
  | d :: r, acc, u, c, h, hc, hb => by
    simp only [List.cons_append, Lib.parseUint10] at h ⊢
    split at h
    · rename_i hd
      rw [if_pos hd]
      split at h
      · cases h
      · rename_i h1
        rw [if_neg h1]
        split at h
        · cases h
        · rename_i h2
          rw [if_neg h2]
          exact parse_snoc r _ u c h hc hb
    · cases h
theorem parse_dec (n : Nat) (hn : n < 9223372036854775808) : Lib.parseUint10 0 (Lib.decDigits n) = .ok n := by
  induction n using Nat.strongRecOn with
  | _ n ih =>
    by_cases h : n < 10
    · rw [dec_small h]
      have := parse_snoc [] 0 0 (UInt8.ofNat (48 + n)) rfl (by rw [dig_nat h]; omega) (by rw [dig_nat h]; omega)
      rw [dig_nat h] at this
      simpa using this
    · have hm := Nat.mod_lt n (show 10 > 0 by decide)
      have := parse_snoc _ 0 (n / 10) (UInt8.ofNat (48 + n % 10)) (ih (n / 10) (by omega) (by omega)) (by rw [dig_nat hm]; omega) (by rw [dig_nat hm]; omega)
      rw [dec_big h, this, dig_nat hm]
      congr 1
      omega
theorem atoi_dec (n : Nat) (hn : n < 9223372036854775808) : Lib.atoiAll (Lib.decDigits n) = .ok n := by
  have hp : Lib.parseMag (Lib.decDigits n) = .ok n := by unfold Lib.parseMag; rw [if_neg (dec_ne n), parse_dec n hn]
  cases h : Lib.decDigits n with
  | nil => exact absurd h (dec_ne n)
  | cons c r =>
    have hc := dec_bytes n c (by rw [h]; simp)
    rw [Lib.atoiAll_plain c r (by omega) (by omega), ← h, hp]
    simp only [Lib.signless]
    rw [if_neg (by omega)]
theorem itoa_nat (n : Nat) : Lib.itoa (n : Int) = Lib.decDigits n := Lib.itoa_nonneg n

/-- The list before and behind the first b, if b is in it. -/
theorem first_byte {b : UInt8} : ∀ {p p' r r' : List UInt8}, p ++ b :: r = p' ++ b :: r' → b ∉ p → b ∉ p' → p = p' ∧ r = r'
  | [], [], r, r', h, _, _ => by simpa using h
  | [], c :: p', r, r', h, _, h2 => by
    have : b = c := by simpa using (List.cons.inj h).1
    exact absurd (by simp [this]) h2
  | c :: p, [], r, r', h, h1, _ => by
    have : c = b := by simpa using (List.cons.inj h).1
    exact absurd (by simp [this]) h1
  | c :: p, c' :: p', r, r', h, h1, h2 => by
    obtain ⟨h3, h4⟩ := List.cons.inj h
    obtain ⟨e1, e2⟩ := first_byte (p := p) (p' := p') h4 (fun hh => h1 (List.mem_cons_of_mem _ hh)) (fun hh => h2 (List.mem_cons_of_mem _ hh))
    exact ⟨by rw [h3, e1], e2⟩
end Go.Proofs.YtjmjilkpckbpeaaGreatDoor

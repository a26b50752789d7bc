/- Lists of plain elements (int) in memory: comparing, marking. Condition: the numbers of the marks lie in 1 .. 99999999. -/
import Derived.Test.YtacjdapfbmdddaaOwn
import Derived.Test.YtacjdapfbmdddaaMark
import Derived.BigQuiet
namespace Go.Proofs.Ytacjdapfbmdddaa
open Go.RowKit

def Ints.cells (x : Int) : List Value := [.int .i64 (x)]
theorem Ints.len (x : Int) : (Ints.cells x).length = 1 := rfl
abbrev Ints (w : World) (lo hi : Nat) (A : Option Addr) (l : List Int) : Prop := Sl Ints.cells 1 w lo hi A l
theorem Ints.one (x : Int) : ∀ u ∈ Ints.cells x, u.oneCell' = true := by intro u hu; simp [Ints.cells] at hu; subst hu; rfl
theorem Ints.info : (Try.prog.info? 3).map (fun i => (i.zero, i.size, i.bytes)) = some (some (.int .i64 0), 1, 8) := by kernel_rfl
theorem Ints.at1 {w : World} {lo hi : Nat} {A : Option Addr} {l : List Int} (h : Ints w lo hi A l) {i : Nat} {x : Int} (hx : l[i]? = some x) : ∃ b off, A = some ⟨b, off, none⟩ ∧ lo ≤ b ∧ b < hi ∧ hi ≤ w.heap.size ∧ w.cell? ⟨b, off + i, none⟩ = some (.int .i64 (x)) ∧ w.frozen? ⟨b, off + i, none⟩ = false := by
  obtain ⟨b, off, e, h1, h2, h3, hf⟩ := h.at_ hx
  have := hf 0 _ rfl
  rw [Nat.mul_one] at this
  exact ⟨b, off, e, h1, h2, h3, this.1, this.2⟩
def Ints.mk1 (k : Int) : Int := k
def Ints.mkL (k : Int) : Nat → List Int
  | 0 => []
  | n + 1 => Ints.mkL k n ++ [Ints.mk1 (k + n)]
theorem Ints.mkL_len (k : Int) : ∀ n, (Ints.mkL k n).length = n
  | 0 => rfl
  | n + 1 => by simp [Ints.mkL, Ints.mkL_len k n]
theorem Ints.mkL_at {k : Int} : ∀ {n q : Nat}, q < n → (Ints.mkL k n)[q]? = some (Ints.mk1 (k + q))
  | 0, q, h => by omega
  | n + 1, q, h => by
    rw [Ints.mkL]
    by_cases hq : q < n
    · rw [List.getElem?_append_left (by rw [Ints.mkL_len]; exact hq)]; exact Ints.mkL_at hq
    · obtain rfl : q = n := by omega
      rw [List.getElem?_append_right (by rw [Ints.mkL_len]; omega), Ints.mkL_len]; simp
theorem Ints.mkL_set {k : Int} {l : List Int} {q : Nat} {x : Int} (hx : l[q]? = some x) : (Ints.mkL k q ++ l.drop q)[q]? = some x ∧ (Ints.mkL k q ++ l.drop q).set q (Ints.mk1 (k + q)) = Ints.mkL k (q + 1) ++ l.drop (q + 1) := by
  obtain ⟨hq, rfl⟩ := List.getElem?_eq_some_iff.1 hx
  constructor
  · rw [List.getElem?_append_right (by rw [Ints.mkL_len]; omega), Ints.mkL_len]; simp [hq]
  · rw [List.set_append_right _ _ (by rw [Ints.mkL_len]; omega), Ints.mkL_len, Nat.sub_self, List.drop_eq_getElem_cons hq, List.set_cons_zero, Ints.mkL, List.append_assoc]; rfl

end Go.Proofs.Ytacjdapfbmdddaa

/- Lists of plain elements (string) in memory: comparing, marking. Condition: the numbers of the marks lie in 1 .. 99999999. -/
import Derived.Test.YtacjdapfbmdddaaOwn
import Derived.Test.YtacjdapfbmdddaaMark
import Derived.BigQuiet
namespace Go.Proofs.Ytacjdapfbmdddaa
open Go.RowKit

def Strs.cells (x : ByteArray) : List Value := [.string (x)]
theorem Strs.len (x : ByteArray) : (Strs.cells x).length = 1 := rfl
abbrev Strs (w : World) (lo hi : Nat) (A : Option Addr) (l : List ByteArray) : Prop := Sl Strs.cells 1 w lo hi A l
theorem Strs.one (x : ByteArray) : ∀ u ∈ Strs.cells x, u.oneCell' = true := by intro u hu; simp [Strs.cells] at hu; subst hu; rfl
theorem Strs.info : (Try.prog.info? 9).map (fun i => (i.zero, i.size, i.bytes)) = some (some (.string ⟨#[]⟩), 1, 16) := by kernel_rfl
theorem Strs.at1 {w : World} {lo hi : Nat} {A : Option Addr} {l : List ByteArray} (h : Strs w lo hi A l) {i : Nat} {x : ByteArray} (hx : l[i]? = some x) : ∃ b off, A = some ⟨b, off, none⟩ ∧ lo ≤ b ∧ b < hi ∧ hi ≤ w.heap.size ∧ w.cell? ⟨b, off + i, none⟩ = some (.string (x)) ∧ w.frozen? ⟨b, off + i, none⟩ = false := by
  obtain ⟨b, off, e, h1, h2, h3, hf⟩ := h.at_ hx
  have := hf 0 _ rfl
  rw [Nat.mul_one] at this
  exact ⟨b, off, e, h1, h2, h3, this.1, this.2⟩
def Strs.mk1 (k : Int) : ByteArray := mt (k)
def Strs.mkL (k : Int) : Nat → List ByteArray
  | 0 => []
  | n + 1 => Strs.mkL k n ++ [Strs.mk1 (k + n)]
theorem Strs.mkL_len (k : Int) : ∀ n, (Strs.mkL k n).length = n
  | 0 => rfl
  | n + 1 => by simp [Strs.mkL, Strs.mkL_len k n]
theorem Strs.mkL_at {k : Int} : ∀ {n q : Nat}, q < n → (Strs.mkL k n)[q]? = some (Strs.mk1 (k + q))
  | 0, q, h => by omega
  | n + 1, q, h => by
    rw [Strs.mkL]
    by_cases hq : q < n
    · rw [List.getElem?_append_left (by rw [Strs.mkL_len]; exact hq)]; exact Strs.mkL_at hq
    · obtain rfl : q = n := by omega
      rw [List.getElem?_append_right (by rw [Strs.mkL_len]; omega), Strs.mkL_len]; simp
theorem Strs.mkL_set {k : Int} {l : List ByteArray} {q : Nat} {x : ByteArray} (hx : l[q]? = some x) : (Strs.mkL k q ++ l.drop q)[q]? = some x ∧ (Strs.mkL k q ++ l.drop q).set q (Strs.mk1 (k + q)) = Strs.mkL k (q + 1) ++ l.drop (q + 1) := by
  obtain ⟨hq, rfl⟩ := List.getElem?_eq_some_iff.1 hx
  constructor
  · rw [List.getElem?_append_right (by rw [Strs.mkL_len]; omega), Strs.mkL_len]; simp [hq]
  · rw [List.set_append_right _ _ (by rw [Strs.mkL_len]; omega), Strs.mkL_len, Nat.sub_self, List.drop_eq_getElem_cons hq, List.set_cons_zero, Strs.mkL, List.append_assoc]; rfl

end Go.Proofs.Ytacjdapfbmdddaa

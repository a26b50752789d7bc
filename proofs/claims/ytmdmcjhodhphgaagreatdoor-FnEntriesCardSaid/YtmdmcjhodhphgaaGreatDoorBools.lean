/- Lists of plain elements (bool) in memory: comparing, marking. Condition: the numbers of the marks lie in 1 .. 99999999. -/
import Derived.Test.YtmdmcjhodhphgaaGreatDoorOwn
import Derived.Test.YtmdmcjhodhphgaaGreatDoorMark
import Derived.BigQuiet
namespace Go.Proofs.YtmdmcjhodhphgaaGreatDoor
open Go.RowKit

def Bools.cells (x : Bool) : List Value := [.bool (x)]
theorem Bools.len (x : Bool) : (Bools.cells x).length = 1 := rfl
abbrev Bools (w : World) (lo hi : Nat) (A : Option Addr) (l : List Bool) : Prop := Sl Bools.cells 1 w lo hi A l
theorem Bools.one (x : Bool) : ∀ u ∈ Bools.cells x, u.oneCell' = true := by intro u hu; simp [Bools.cells] at hu; subst hu; rfl
theorem Bools.info : (Tryz.prog.info? 4).map (fun i => (i.zero, i.size, i.bytes)) = some (some (.bool false), 1, 1) := by kernel_rfl
theorem Bools.at1 {w : World} {lo hi : Nat} {A : Option Addr} {l : List Bool} (h : Bools w lo hi A l) {i : Nat} {x : Bool} (hx : l[i]? = some x) : ∃ b off, A = some ⟨b, off, none⟩ ∧ lo ≤ b ∧ b < hi ∧ hi ≤ w.heap.size ∧ w.cell? ⟨b, off + i, none⟩ = some (.bool (x)) ∧ w.frozen? ⟨b, off + i, none⟩ = false := by
  obtain ⟨b, off, e, h1, h2, h3, hf⟩ := h.at_ hx
  have := hf 0 _ rfl
  rw [Nat.mul_one] at this
  exact ⟨b, off, e, h1, h2, h3, this.1, this.2⟩
def Bools.mk1 (k : Int) : Bool := decide ((k) % 3 = 0)
def Bools.mkL (k : Int) : Nat → List Bool
  | 0 => []
  | n + 1 => Bools.mkL k n ++ [Bools.mk1 (k + n)]
theorem Bools.mkL_len (k : Int) : ∀ n, (Bools.mkL k n).length = n
  | 0 => rfl
  | n + 1 => by simp [Bools.mkL, Bools.mkL_len k n]
theorem Bools.mkL_at {k : Int} : ∀ {n q : Nat}, q < n → (Bools.mkL k n)[q]? = some (Bools.mk1 (k + q))
  | 0, q, h => by omega
  | n + 1, q, h => by
    rw [Bools.mkL]
    by_cases hq : q < n
    · rw [List.getElem?_append_left (by rw [Bools.mkL_len]; exact hq)]; exact Bools.mkL_at hq
    · obtain rfl : q = n := by omega
      rw [List.getElem?_append_right (by rw [Bools.mkL_len]; omega), Bools.mkL_len]; simp
theorem Bools.mkL_set {k : Int} {l : List Bool} {q : Nat} {x : Bool} (hx : l[q]? = some x) : (Bools.mkL k q ++ l.drop q)[q]? = some x ∧ (Bools.mkL k q ++ l.drop q).set q (Bools.mk1 (k + q)) = Bools.mkL k (q + 1) ++ l.drop (q + 1) := by
  obtain ⟨hq, rfl⟩ := List.getElem?_eq_some_iff.1 hx
  constructor
  · rw [List.getElem?_append_right (by rw [Bools.mkL_len]; omega), Bools.mkL_len]; simp [hq]
  · rw [List.set_append_right _ _ (by rw [Bools.mkL_len]; omega), Bools.mkL_len, Nat.sub_self, List.drop_eq_getElem_cons hq, List.set_cons_zero, Bools.mkL, List.append_assoc]; rfl

end Go.Proofs.YtmdmcjhodhphgaaGreatDoor

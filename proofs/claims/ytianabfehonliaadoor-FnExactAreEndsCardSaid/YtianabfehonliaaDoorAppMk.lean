/- Appliances: writing marks into them and reading the marks back. Condition: the numbers of the marks lie in 1 .. 99999999. -/
import Derived.Test.YtianabfehonliaaDoorApp
import Derived.Test.YtianabfehonliaaDoorMark
import Derived.BigQuiet
namespace Go.Proofs.YtianabfehonliaaDoor
open Go.RowKit

def App.mk1 (k : Int) : App := ⟨mt (k), k + 1, k + 1 + 1, k + 1 + 1 + 1, k + 1 + 1 + 1 + 1⟩
def App.mkL (k : Int) : Nat → List App
  | 0 => []
  | n + 1 => App.mkL k n ++ [App.mk1 (k + 5 * n)]
theorem App.mkL_len (k : Int) : ∀ n, (App.mkL k n).length = n
  | 0 => rfl
  | n + 1 => by simp [App.mkL, App.mkL_len k n]
theorem App.mkL_at {k : Int} : ∀ {n q : Nat}, q < n → (App.mkL k n)[q]? = some (App.mk1 (k + 5 * q))
  | 0, q, h => by omega
  | n + 1, q, h => by
    rw [App.mkL]
    by_cases hq : q < n
    · rw [List.getElem?_append_left (by rw [App.mkL_len]; exact hq)]; exact App.mkL_at hq
    · obtain rfl : q = n := by omega
      rw [List.getElem?_append_right (by rw [App.mkL_len]; omega), App.mkL_len]; simp
theorem App.mkL_set {k : Int} {l : List App} {q : Nat} {x : App} (hx : l[q]? = some x) : (App.mkL k q ++ l.drop q)[q]? = some x ∧ (App.mkL k q ++ l.drop q).set q (App.mk1 (k + 5 * q)) = App.mkL k (q + 1) ++ l.drop (q + 1) := by
  obtain ⟨hq, rfl⟩ := List.getElem?_eq_some_iff.1 hx
  constructor
  · rw [List.getElem?_append_right (by rw [App.mkL_len]; omega), App.mkL_len]; simp [hq]
  · rw [List.set_append_right _ _ (by rw [App.mkL_len]; omega), App.mkL_len, Nat.sub_self, List.drop_eq_getElem_cons hq, List.set_cons_zero, App.mkL, List.append_assoc]; rfl

end Go.Proofs.YtianabfehonliaaDoor

/- Messages: writing marks into them and reading the marks back. Condition: the numbers of the marks lie in 1 .. 99999999. -/
import Derived.Test.YtacjdapfbmdddaaMsg
import Derived.Test.YtacjdapfbmdddaaMark
import Derived.BigQuiet
namespace Go.Proofs.Ytacjdapfbmdddaa
open Go.RowKit

def Msg.mk1 (k : Int) : Msg := ⟨mt (k), k + 1, mt (k + 1 + 1)⟩
def Msg.mkL (k : Int) : Nat → List Msg
  | 0 => []
  | n + 1 => Msg.mkL k n ++ [Msg.mk1 (k + 3 * n)]
theorem Msg.mkL_len (k : Int) : ∀ n, (Msg.mkL k n).length = n
  | 0 => rfl
  | n + 1 => by simp [Msg.mkL, Msg.mkL_len k n]
theorem Msg.mkL_at {k : Int} : ∀ {n q : Nat}, q < n → (Msg.mkL k n)[q]? = some (Msg.mk1 (k + 3 * q))
  | 0, q, h => by omega
  | n + 1, q, h => by
    rw [Msg.mkL]
    by_cases hq : q < n
    · rw [List.getElem?_append_left (by rw [Msg.mkL_len]; exact hq)]; exact Msg.mkL_at hq
    · obtain rfl : q = n := by omega
      rw [List.getElem?_append_right (by rw [Msg.mkL_len]; omega), Msg.mkL_len]; simp
theorem Msg.mkL_set {k : Int} {l : List Msg} {q : Nat} {x : Msg} (hx : l[q]? = some x) : (Msg.mkL k q ++ l.drop q)[q]? = some x ∧ (Msg.mkL k q ++ l.drop q).set q (Msg.mk1 (k + 3 * q)) = Msg.mkL k (q + 1) ++ l.drop (q + 1) := by
  obtain ⟨hq, rfl⟩ := List.getElem?_eq_some_iff.1 hx
  constructor
  · rw [List.getElem?_append_right (by rw [Msg.mkL_len]; omega), Msg.mkL_len]; simp [hq]
  · rw [List.set_append_right _ _ (by rw [Msg.mkL_len]; omega), Msg.mkL_len, Nat.sub_self, List.drop_eq_getElem_cons hq, List.set_cons_zero, Msg.mkL, List.append_assoc]; rfl

end Go.Proofs.Ytacjdapfbmdddaa

/- The first place where two logs differ, as the program and the reference find it. Conditions as in Log. -/
import Derived.Test.YtmdmcjhodhphgaaGreatDoorLog
import Derived.BigQuiet
namespace Go.Proofs.YtmdmcjhodhphgaaGreatDoor
open Go.RowKit

def eqE (x y : Ent) : Bool := decide (x.r = y.r) && decide (x.n = y.n) && decide (x.m = y.m) && decide (x.t.toList = y.t.toList)
def confF : List Ent → List Ent → Nat → Int × Bool
  | x :: a, y :: b, i => if eqE x y = true then confF a b (i + 1) else (i, true)
  | _, _, _ => (0, false)
theorem confF_step {a b : List Ent} {k : Nat} {x y : Ent} (hx : a[k]? = some x) (hy : b[k]? = some y) : confF (a.drop k) (b.drop k) k = if eqE x y = true then confF (a.drop (k + 1)) (b.drop (k + 1)) (k + 1) else (k, true) := by
  obtain ⟨h1, rfl⟩ := List.getElem?_eq_some_iff.1 hx
  obtain ⟨h2, rfl⟩ := List.getElem?_eq_some_iff.1 hy
  rw [List.drop_eq_getElem_cons h1, List.drop_eq_getElem_cons h2]
  rfl
theorem confF_end {a b : List Ent} {k : Nat} (h : ¬ (k < a.length ∧ k < b.length)) : confF (a.drop k) (b.drop k) k = (0, false) := by
  by_cases h1 : a.length ≤ k
  · rw [List.drop_of_length_le h1]; rfl
  · rw [List.drop_of_length_le (l := b) (by omega)]
    cases a.drop k <;> rfl
def twoB (a b : List Ent) : Bool := logB a && logB b
def confI (a b : List Ent) : Int := if twoB a b = true then (confF a b 0).1 else 0
def confB (a b : List Ent) : Bool := if twoB a b = true then (confF a b 0).2 else false

end Go.Proofs.YtmdmcjhodhphgaaGreatDoor

/- Whether one log is a beginning of another, as the program and the reference test it. Conditions as in Log. -/
import Derived.Test.YtmdmcjhodhphgaaGreatDoorConf
namespace Go.Proofs.YtmdmcjhodhphgaaGreatDoor
open Go.RowKit

def begF : List Ent → List Ent → Bool
  | [], _ => true
  | x :: a, y :: b => eqE x y && begF a b
  | _ :: _, [] => false
theorem begF_step {a b : List Ent} {k : Nat} {x y : Ent} (hx : a[k]? = some x) (hy : b[k]? = some y) : begF (a.drop k) (b.drop k) = (eqE x y && begF (a.drop (k + 1)) (b.drop (k + 1))) := by
  obtain ⟨h1, rfl⟩ := List.getElem?_eq_some_iff.1 hx
  obtain ⟨h2, rfl⟩ := List.getElem?_eq_some_iff.1 hy
  rw [List.drop_eq_getElem_cons h1, List.drop_eq_getElem_cons h2]
  rfl
theorem begF_end {a b : List Ent} {k : Nat} (h : a.length ≤ k) : begF (a.drop k) (b.drop k) = true := by rw [List.drop_of_length_le h]; cases b.drop k <;> rfl
theorem begF_len : ∀ {a b : List Ent}, b.length < a.length → begF a b = false
  | [], _, h => by simp at h
  | _ :: _, [], _ => rfl
  | x :: a, y :: b, h => by
    have := begF_len (a := a) (b := b) (by simpa using h)
    simp [begF, this]
theorem begF_take : ∀ (a b : List Ent), begF a (b.take a.length) = begF a b
  | [], b => by cases b <;> rfl
  | _ :: _, [] => by simp
  | x :: a, y :: b => by simp [begF, begF_take a b]
theorem Sl.take {α : Type} {E : α → List Value} {k : Nat} {w : World} {lo hi : Nat} {A : Option Addr} {l : List α} (h : Sl E k w lo hi A l) (n : Nat) : Sl E k w lo hi A (l.take n) := fun hn => by
  obtain ⟨b, off, e, c, d, g, f⟩ := h (by rintro rfl; simp at hn)
  refine ⟨b, off, e, c, d, g, fun i x hx => f i x ?_⟩
  rw [List.getElem?_take] at hx
  split at hx
  · exact hx
  · cases hx

theorem eqE_comm (x y : Ent) : eqE x y = eqE y x := by unfold eqE; simp only [eq_comm]
end Go.Proofs.YtmdmcjhodhphgaaGreatDoor

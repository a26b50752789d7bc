/- The first place where two logs differ, as the program and the reference find it. Conditions as in Log. -/
import Derived.Test.YtcphchmpgnfokaaDoorLog
import Derived.BigQuiet
namespace Go.Proofs.YtcphchmpgnfokaaDoor
open Go.RowKit

def eqE (x y : Ent) : Bool := decide (x.r = y.r) && decide (x.n = y.n) && decide (x.m = y.m) && decide (x.t.toList = y.t.toList)
def confF : List Ent → List Ent → Nat → Int × Bool
  | x :: a, y :: b, i => if eqE x y = true then confF a b (i + 1) else (i, true)
  | _, _, _ => (0, false)
theorem confF_step {a b : List Ent} {k : Nat} {x y : Ent} (hx : a[k]? = some x) (hy : b[k]? = some y) : confF (a.drop k) (b.drop k) k = if eqE x y = true then confF (a.drop (k + 1)) (b.drop (k + 1)) (k + 1) else (k, true) := by
  obtain ⟨h1, rfl⟩ := List.getElem?_eq_some_iff.1 hx
  obtain ⟨h2, rfl⟩ := List.getElem?_eq_some_iff.1 hy
  rw [List.drop_eq_getElem_cons h1, List.drop_eq_getElem_cons h2]
  rfl
theorem confF_end {a b : List Ent} {k : Nat} (h : ¬ (k < a.length ∧ k < b.length)) : confF (a.drop k) (b.drop k) k = (0, false) := by
  by_cases h1 : a.length ≤ k
  · rw [List.drop_of_length_le h1]; rfl
  · rw [List.drop_of_length_le (l := b) (by omega)]
    cases a.drop k <;> rfl
def twoB (a b : List Ent) : Bool := logB a && logB b
def confI (a b : List Ent) : Int := if twoB a b = true then (confF a b 0).1 else 0
def confB (a b : List Ent) : Bool := if twoB a b = true then (confF a b 0).2 else false

set_option maxHeartbeats 1000000 in
theorem mgTwo_any (A B : Option Addr) (c d : Nat) (a b : List Ent) (w : World) (hl : a.length ≤ maxLen) (hm : ∀ x ∈ a, x.t.size ≤ maxLen) (hS : Ents w 0 w.heap.size A a) (hl2 : b.length ≤ maxLen) (hm2 : ∀ x ∈ b, x.t.size ≤ maxLen) (hS2 : Ents w 0 w.heap.size B b) :
    Calls Tryd.prog 90 #[.slice A a.length c, .slice B b.length d] w (RV w (.bool (twoB a b))) := by
  go_enter Tryd.func90, Tryd.ntmps90
  go_wp2_with fail
  refine (lgGood_any A c a _ hl hm hS).mono ?_
  rintro e w1 ⟨rfl, hb⟩
  have hB1 : Below w.heap.size w w1 := Below.on' (by go_grown) hb
  have hS3 := (hS2.below hb).mono (Nat.le_refl _) hb.size (Nat.le_refl _)
  clear hb
  by_cases h1 : logB a = true
  · go_wp2_with fail
    refine (lgGood_any B d b _ hl2 hm2 hS3).mono ?_
    rintro e w2 ⟨rfl, hb⟩
    have hB2 : Below w.heap.size w w2 := Below.on' hB1 hb
    go_wp2
    go_ret
    exact RV.mk (vbool (by simp [twoB, h1])) hB2
  · have h1 : logB a = false := by simpa using h1
    go_wp2
    go_ret
    exact RV.mk (vbool (by simp [twoB, h1])) hB1
end Go.Proofs.YtcphchmpgnfokaaDoor

/- Which entries of a log are live, in plain Lean: no program walked. No conditions. -/
import Derived.Test.YtmdmcjhodhphgaaGreatDoorLineP
namespace Go.Proofs.YtmdmcjhodhphgaaGreatDoor
open Go.RowKit

def canP : ByteArray := ⟨#[99, 97, 110, 99, 101, 108, 32]⟩
def canT (k : Nat) : ByteArray := canP ++ numT k
theorem canT_data (k : Nat) : (canT k).data.toList = canP.data.toList ++ Lib.decDigits k := by simp [canT, ByteArray.data_append, Array.toList_append, numT_dec]
theorem canT_inj {k j : Nat} (h : (canT k).toList = (canT j).toList) : k = j := by
  rw [Go.ByteArray.toList_eq, Go.ByteArray.toList_eq, canT_data, canT_data] at h
  exact dec_inj (List.append_cancel_left h)
/-- One more entry, with the text t, behind entries that are live as g says. -/
def liveStep (g : List Bool) (t : ByteArray) : List Bool :=
  match (List.range g.length).find? (fun k => (g[k]? == some true) && decide (t.toList = (canT (k + 1)).toList)) with
  | some k => g.set k false ++ [false]
  | none => g ++ [true]
theorem liveStep_hit {g : List Bool} {t : ByteArray} {k : Nat} (hk : g[k]? = some true) (ht : t.toList = (canT (k + 1)).toList) : liveStep g t = g.set k false ++ [false] := by
  unfold liveStep
  cases h : (List.range g.length).find? (fun k => (g[k]? == some true) && decide (t.toList = (canT (k + 1)).toList)) with
  | none =>
    have := List.find?_eq_none.1 h k (by simpa using (List.getElem?_eq_some_iff.1 hk).1)
    simp [hk, ht] at this
  | some j =>
    have hj := List.find?_some h
    simp only [Bool.and_eq_true, decide_eq_true_eq] at hj
    have := canT_inj (hj.2.symm.trans ht)
    obtain rfl : j = k := by omega
    rfl
theorem liveStep_miss {g : List Bool} {t : ByteArray} (h : ∀ k, g[k]? = some true → t.toList ≠ (canT (k + 1)).toList) : liveStep g t = g ++ [true] := by
  unfold liveStep
  cases h' : (List.range g.length).find? (fun k => (g[k]? == some true) && decide (t.toList = (canT (k + 1)).toList)) with
  | none => rfl
  | some j =>
    have hj := List.find?_some h'
    simp only [Bool.and_eq_true, decide_eq_true_eq, beq_iff_eq] at hj
    exact absurd hj.2 (h j hj.1)
theorem liveStep_len (g : List Bool) (t : ByteArray) : (liveStep g t).length = g.length + 1 := by
  unfold liveStep
  split <;> simp
/-- Which entries are live. -/
def liveF (l : List Ent) : List Bool := l.foldl (fun g e => liveStep g e.t) []
theorem liveF_snoc (l : List Ent) (e : Ent) : liveF (l ++ [e]) = liveStep (liveF l) e.t := by simp [liveF, List.foldl_append]
theorem liveF_len (l : List Ent) : (liveF l).length = l.length := by
  have : ∀ (l : List Ent) (g : List Bool), (l.foldl (fun g e => liveStep g e.t) g).length = g.length + l.length := by
    intro l
    induction l with
    | nil => intro g; rfl
    | cons e l ih => intro g; rw [List.foldl_cons, ih, liveStep_len, List.length_cons]; omega
  rw [liveF, this]
  simp
/-- The indices of what is live. -/
def idxF : List Bool → Nat → List Int
  | [], _ => []
  | b :: l, i => if b = true then (i : Int) :: idxF l (i + 1) else idxF l (i + 1)
theorem idxF_step {l : List Bool} {k : Nat} {b : Bool} (hx : l[k]? = some b) : idxF (l.drop k) k = if b = true then (k : Int) :: idxF (l.drop (k + 1)) (k + 1) else idxF (l.drop (k + 1)) (k + 1) := by
  obtain ⟨h1, rfl⟩ := List.getElem?_eq_some_iff.1 hx
  rw [List.drop_eq_getElem_cons h1]
  rfl
theorem idxF_len : ∀ (l : List Bool) (i : Nat), (idxF l i).length ≤ l.length
  | [], _ => Nat.le_refl _
  | b :: l, i => by
    have := idxF_len l (i + 1)
    unfold idxF
    split <;> simp <;> omega
theorem idxF_mem : ∀ (l : List Bool) (i : Nat) (n : Int), n ∈ idxF l i ↔ ∃ k : Nat, n = ((i + k : Nat) : Int) ∧ l[k]? = some true
  | [], i, n => by simp [idxF]
  | b :: l, i, n => by
    have ih := idxF_mem l (i + 1) n
    have hs : (∃ k : Nat, n = ((i + k : Nat) : Int) ∧ (b :: l)[k]? = some true) ↔ ((n = (i : Int) ∧ b = true) ∨ ∃ k : Nat, n = ((i + 1 + k : Nat) : Int) ∧ l[k]? = some true) := by
      constructor
      · rintro ⟨k, h1, h2⟩
        cases k with
        | zero => exact .inl ⟨by simpa using h1, by simpa using h2⟩
        | succ k => exact .inr ⟨k, by rw [h1]; omega, by simpa using h2⟩
      · rintro (⟨h1, h2⟩ | ⟨k, h1, h2⟩)
        · exact ⟨0, by simpa using h1, by simpa using h2⟩
        · exact ⟨k + 1, by rw [h1]; omega, by simpa using h2⟩
    have e : idxF (b :: l) i = if b = true then (i : Int) :: idxF l (i + 1) else idxF l (i + 1) := rfl
    rw [hs, ← ih, e]
    cases b <;> simp
def liveR (l : List Ent) : List Int := idxF (liveF l) 0
theorem liveR_len (l : List Ent) : (liveR l).length ≤ l.length := by
  have := idxF_len (liveF l) 0
  rwa [liveF_len] at this
end Go.Proofs.YtmdmcjhodhphgaaGreatDoor

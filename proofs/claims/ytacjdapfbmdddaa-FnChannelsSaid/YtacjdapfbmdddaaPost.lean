/- What calls that return slices leave; function values; searching a list. No conditions. -/
import Derived.Test.YtacjdapfbmdddaaOwn
namespace Go.Proofs.Ytacjdapfbmdddaa
open Go.RowKit

/-- The call returned a slice that reads R, in new blocks. -/
def RS1 {α : Type} (E : α → List Value) (k : Nat) (w : World) (R : List α) (e : Ending) (w' : World) : Prop :=
  ∃ A c, e = .returned (.slice A R.length c) ∧ Sl E k w' w.heap.size w'.heap.size A R ∧ R.length ≤ c ∧ Below w.heap.size w w'
/-- .. and a bool behind it. -/
def RS2 {α : Type} (E : α → List Value) (k : Nat) (w : World) (R : List α) (B : Bool) (e : Ending) (w' : World) : Prop :=
  ∃ A c, e = .returned (.tuple #[.slice A R.length c, .bool B]) ∧ Sl E k w' w.heap.size w'.heap.size A R ∧ R.length ≤ c ∧ Below w.heap.size w w'
/-- The call returned a slice that reads R, in a row of its own. -/
def RO1 {α : Type} (E : α → List Value) (k : Nat) (T : TypeId) (w : World) (R : List α) (e : Ending) (w' : World) : Prop :=
  ∃ A c, e = .returned (.slice A R.length c) ∧ Own E k T w' w.heap.size A c R ∧ Below w.heap.size w w'
section
variable {α : Type} {E : α → List Value} {k : Nat} {w w' : World} {R : List α} {B : Bool} {T : TypeId} {A : Option Addr} {c : Nat}
theorem RS2.nil_ (h1 : R = []) (h2 : B = false) (hb : Below w.heap.size w w') : RS2 E k w R B (.returned (.tuple #[.slice none 0 0, .bool false])) w' := by
  subst h1 h2
  exact ⟨none, 0, rfl, Sl.nil_, Nat.le_refl _, hb⟩
theorem RS1.nil_ (h1 : R = []) (hb : Below w.heap.size w w') : RS1 E k w R (.returned (.slice none 0 0)) w' := by
  subst h1
  exact ⟨none, 0, rfl, Sl.nil_, Nat.le_refl _, hb⟩
theorem RS1.own {l : List α} {n : Nat} (h1 : R = l) (hn : n = l.length) (hE : ∀ x, (E x).length = k) (hO : Own E k T w' w.heap.size A c l) (hb : Below w.heap.size w w') : RS1 E k w R (.returned (.slice A n c)) w' := by
  subst h1 hn
  exact ⟨A, c, rfl, hO.sl hE, hO.cap, hb⟩
theorem RS2.own {l : List α} {n : Nat} {b : Bool} (h1 : R = l) (hn : n = l.length) (h2 : B = b) (hE : ∀ x, (E x).length = k) (hO : Own E k T w' w.heap.size A c l) (hb : Below w.heap.size w w') : RS2 E k w R B (.returned (.tuple #[.slice A n c, .bool b])) w' := by
  subst h1 hn h2
  exact ⟨A, c, rfl, hO.sl hE, hO.cap, hb⟩
theorem RS2.of {l : List α} {n lo : Nat} {b : Bool} (h1 : R = l) (hn : n = l.length) (h2 : B = b) (hS : Sl E k w' lo w'.heap.size A l) (hlo : w.heap.size ≤ lo) (hc : l.length ≤ c) (hb : Below w.heap.size w w') : RS2 E k w R B (.returned (.tuple #[.slice A n c, .bool b])) w' := by
  subst h1 hn h2
  exact ⟨A, c, rfl, hS.mono hlo (Nat.le_refl _) (Nat.le_refl _), hc, hb⟩
theorem RS1.of {l : List α} {n lo : Nat} (h1 : R = l) (hn : n = l.length) (hS : Sl E k w' lo w'.heap.size A l) (hlo : w.heap.size ≤ lo) (hc : l.length ≤ c) (hb : Below w.heap.size w w') : RS1 E k w R (.returned (.slice A n c)) w' := by
  subst h1 hn
  exact ⟨A, c, rfl, hS.mono hlo (Nat.le_refl _) (Nat.le_refl _), hc, hb⟩
theorem Sl.none_nil {lo hi : Nat} (h : Sl E k w lo hi none R) : R = [] := by
  by_cases hn : R = []
  · exact hn
  · obtain ⟨b, off, e, _⟩ := h hn; cases e
end
theorem enters {P : Program} {g : FuncId} {fn : Func} (h : P.funcs[g]? = some fn) (hn : (fn.name == "runtime.NumGoroutine") = false) (hb : fn.body.isNone = false) : ∀ args w, (callFunc g args).run P w = .ok (.enter g args) w := by
  intro args w
  have hn' : ¬ fn.name = "runtime.NumGoroutine" := by simpa using hn
  have hb' : ¬ fn.body = none := by intro e; rw [e] at hb; cases hb
  simp [callFunc, h, hn', hb']
theorem Fr.alloc {lo hi : Nat} {w W : World} (h : Fr lo hi w W) (o : Obj) : Fr lo hi w (W.alloc o) := h.on ((Below.refl _ _).alloc (Nat.le_refl _) o)
theorem Fr.setCells {lo hi b : Nat} (hb : lo ≤ b ∧ b < hi) : ∀ (vs : List Value) (o : Nat) {w W : World}, Fr lo hi w W → Fr lo hi w (W.setCells b o vs)
  | [], _, _, _, h => h
  | v :: vs, o, _, _, h => Fr.setCells hb vs (o + 1) (h.setCell (p := ⟨b, o, none⟩) hb v)
def Enters (g : FuncId) : Prop := ∀ args w, (callFunc g args).run Try.prog w = .ok (.enter g args) w
def idxG {α : Type} (p : α → Bool) : List α → Nat → Int
  | [], _ => -1
  | x :: l, i => if p x = true then i else idxG p l (i + 1)
theorem idxG_step {α : Type} {p : α → Bool} {l : List α} {k : Nat} {x : α} (hx : l[k]? = some x) : idxG p (l.drop k) k = if p x = true then (k : Int) else idxG p (l.drop (k + 1)) (k + 1) := by
  obtain ⟨h1, rfl⟩ := List.getElem?_eq_some_iff.1 hx
  rw [List.drop_eq_getElem_cons h1]
  rfl
theorem idxG_spec {α : Type} (p : α → Bool) : ∀ (l : List α) (i : Nat), (idxG p l i = -1 ∧ ∀ x ∈ l, p x = false) ∨ ∃ k x, l[k]? = some x ∧ idxG p l i = ((i + k : Nat) : Int) ∧ p x = true ∧ ∀ y ∈ l.take k, p y = false
  | [], _ => .inl ⟨rfl, by simp⟩
  | y :: r, i => by
    by_cases h : p y = true
    · exact .inr ⟨0, y, rfl, by simp [idxG, h], h, by simp⟩
    · have h' : p y = false := by simpa using h
      rcases idxG_spec p r (i + 1) with ⟨e, ha⟩ | ⟨k, x, hk, e, ht, ha⟩
      · refine .inl ⟨by rw [idxG, if_neg h, e], fun x hx => ?_⟩
        rcases List.mem_cons.1 hx with rfl | hx
        · exact h'
        · exact ha x hx
      · refine .inr ⟨k + 1, x, by simpa using hk, by rw [idxG, if_neg h, e]; omega, ht, fun x hx => ?_⟩
        rw [List.take_succ_cons] at hx
        rcases List.mem_cons.1 hx with rfl | hx
        · exact h'
        · exact ha x hx
theorem idxG_any {α : Type} (p : α → Bool) (l : List α) : decide (0 ≤ idxG p l 0) = l.any p := by
  rcases idxG_spec p l 0 with ⟨e, ha⟩ | ⟨k, x, hk, e, ht, _⟩
  · rw [e, Eq.comm, show decide ((0 : Int) ≤ -1) = false from rfl, List.any_eq_false]
    intro x hx
    simp [ha x hx]
  · rw [e, Eq.comm, show decide ((0 : Int) ≤ ((0 + k : Nat) : Int)) = true by simp, List.any_eq_true]
    exact ⟨x, List.mem_of_getElem? hk, ht⟩
theorem idxG_ge {α : Type} (p : α → Bool) : ∀ (l : List α) (i : Nat), -1 ≤ idxG p l i ∧ idxG p l i ≤ i + l.length
  | [], i => by simp [idxG]
  | x :: l, i => by
    have := idxG_ge p l (i + 1)
    rw [idxG]
    split
    · simp only [List.length_cons]; omega
    · simp only [List.length_cons]; omega
theorem idxG_lt {α : Type} (p : α → Bool) (l : List α) : idxG p l 0 < l.length ∨ idxG p l 0 = -1 := by
  rcases idxG_spec p l 0 with ⟨e, _⟩ | ⟨k, x, hk, e, _⟩
  · exact .inr e
  · have := (List.getElem?_eq_some_iff.1 hk).1
    left; omega
theorem new_cells_at {α : Type} {E : α → List Value} (W : World) (T : TypeId) (y : α) (cs : Array Value) (n : Nat) (hn : n = W.heap.size) (h : cs = (E y).toArray) : ∀ j u, (E y)[j]? = some u → (W.alloc (.cells cs T)).cell? ⟨n, j, none⟩ = some u := by
  subst hn
  exact new_cells W T y cs h
theorem toList_inj {a b : ByteArray} (h : a.toList = b.toList) : a = b := by
  apply ByteArray.ext
  apply Array.ext'
  rw [Go.ByteArray.toList_eq, Go.ByteArray.toList_eq] at h
  exact h
end Go.Proofs.Ytacjdapfbmdddaa

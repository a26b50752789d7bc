/- Slices in memory, in plain words: which cells a slice value reads (Sl), and which steps leave them alone. No conditions. -/
import Derived.Test.YtacjdapfbmdddaaBase
import Derived.Laws.OwnMore
import Derived.Deep.AppendLies
import Derived.Deep.Draws
import Derived.Laws.Rows
import Derived.Laws.IdiomCopy
namespace Go.Proofs.Ytacjdapfbmdddaa
open Go.RowKit

/-- The slice value with address A reads the list l: each element x as the cells E x, k cells apart; all of it in blocks lo to hi, and none of it frozen. -/
def Sl {α : Type} (E : α → List Value) (k : Nat) (w : World) (lo hi : Nat) (A : Option Addr) (l : List α) : Prop :=
  l ≠ [] → ∃ b off, A = some ⟨b, off, none⟩ ∧ lo ≤ b ∧ b < hi ∧ hi ≤ w.heap.size ∧
    ∀ i x, l[i]? = some x → ∀ j v, (E x)[j]? = some v → w.cell? ⟨b, off + i * k + j, none⟩ = some v ∧ w.frozen? ⟨b, off + i * k + j, none⟩ = false

/-- Blocks outside lo to hi lie as they lay. -/
structure Fr (lo hi : Nat) (w w' : World) : Prop where
  os : w'.os = w.os
  tape : w'.tape = w.tape
  output : w'.output = w.output
  size : w.heap.size ≤ w'.heap.size
  block : ∀ b, b < w.heap.size → ¬ (lo ≤ b ∧ b < hi) → w'.heap[b]? = w.heap[b]?

theorem Fr.below {lo hi B : Nat} {w w' : World} (h : Fr lo hi w w') (hB : B ≤ lo) (hs : B ≤ w.heap.size) : Below B w w' :=
  ⟨h.os, h.tape, h.output, h.size, fun b hb => h.block b (by omega) (by omega)⟩
theorem Fr.of_below {w w' : World} (h : Below w.heap.size w w') : Fr 0 0 w w' := ⟨h.os, h.tape, h.output, h.size, fun b hb _ => h.block b hb⟩
theorem Fr.refl (lo hi : Nat) (w : World) : Fr lo hi w w := ⟨rfl, rfl, rfl, Nat.le_refl _, fun _ _ _ => rfl⟩
theorem Fr.trans {lo hi : Nat} {a b c : World} (h : Fr lo hi a b) (k : Fr lo hi b c) : Fr lo hi a c :=
  ⟨k.os.trans h.os, k.tape.trans h.tape, k.output.trans h.output, Nat.le_trans h.size k.size, fun i hi1 hi2 => (k.block i (Nat.lt_of_lt_of_le hi1 h.size) hi2).trans (h.block i hi1 hi2)⟩
theorem Fr.on {lo hi : Nat} {w W W' : World} (h : Fr lo hi w W) (k : Below W.heap.size W W') : Fr lo hi w W' := h.trans ⟨k.os, k.tape, k.output, k.size, fun b hb _ => k.block b hb⟩
theorem Fr.setCell {lo hi : Nat} {w W : World} (h : Fr lo hi w W) {p : Addr} (hp : lo ≤ p.block ∧ p.block < hi) (u : Value) : Fr lo hi w (W.setCell p u) :=
  h.trans ⟨rfl, rfl, rfl, by simp [World.setCell], fun b _ hb => Below.heap_setCell _ _ _ _ (by intro e; subst e; exact hb hp)⟩
theorem Fr.drew {lo hi : Nat} {w W : World} (h : Fr lo hi w W) : Fr lo hi w W.drew := ⟨h.os, h.tape, h.output, h.size, h.block⟩

section
variable {α : Type} {E : α → List Value} {k : Nat} {w w' : World} {lo hi lo' hi' : Nat} {A : Option Addr} {l : List α}

theorem Sl.nil_ : Sl E k w lo hi A ([] : List α) := fun h => absurd rfl h
theorem Sl.mono (h : Sl E k w lo hi A l) (h1 : lo' ≤ lo) (h2 : hi ≤ hi') (h3 : hi' ≤ w.heap.size) : Sl E k w lo' hi' A l := fun hn => by
  obtain ⟨b, off, e, c, d, _, f⟩ := h hn
  exact ⟨b, off, e, by omega, by omega, h3, f⟩
theorem Sl.keep (h : Sl E k w lo hi A l) (hk : ∀ b, lo ≤ b → b < hi → w'.heap[b]? = w.heap[b]?) (hs : w.heap.size ≤ w'.heap.size) : Sl E k w' lo hi A l := fun hn => by
  obtain ⟨b, off, e, c, d, g, f⟩ := h hn
  refine ⟨b, off, e, c, d, by omega, fun i x hx j v hv => ?_⟩
  have hb := hk b c d
  exact ⟨(World.cell?_of_block (w := w) hb).trans (f i x hx j v hv).1, (World.frozen?_of_block (w := w) hb).trans (f i x hx j v hv).2⟩
theorem Sl.below (h : Sl E k w lo hi A l) (hb : Below w.heap.size w w') : Sl E k w' lo hi A l := fun hn => by
  obtain ⟨b, off, e, c, d, g, f⟩ := h hn
  exact h.keep (fun b _ hb' => hb.block b (by omega)) hb.size hn
theorem Sl.fr (h : Sl E k w lo hi A l) (hf : Fr lo' hi' w w') (hd : hi ≤ lo' ∨ hi' ≤ lo) : Sl E k w' lo hi A l := fun hn => by
  obtain ⟨b, off, e, c, d, g, f⟩ := h hn
  exact h.keep (fun b h1 h2 => hf.block b (by omega) (by omega)) hf.size hn
theorem Sl.alloc (h : Sl E k w lo hi A l) (o : Obj) : Sl E k (w.alloc o) lo hi A l := h.below ((Below.refl _ _).alloc (Nat.le_refl _) o)
theorem Sl.drew (h : Sl E k w lo hi A l) : Sl E k w.drew lo hi A l := h
/-- What the i-th element's cells hold. -/
theorem Sl.at_ (h : Sl E k w lo hi A l) {i : Nat} {x : α} (hx : l[i]? = some x) : ∃ b off, A = some ⟨b, off, none⟩ ∧ lo ≤ b ∧ b < hi ∧ hi ≤ w.heap.size ∧ ∀ j v, (E x)[j]? = some v → w.cell? ⟨b, off + i * k + j, none⟩ = some v ∧ w.frozen? ⟨b, off + i * k + j, none⟩ = false := by
  have hn : l ≠ [] := by rintro rfl; simp at hx
  obtain ⟨b, off, e, c, d, g, f⟩ := h hn
  exact ⟨b, off, e, c, d, g, fun j v hv => f i x hx j v hv⟩
end

/-- Block g is a row of m cells of type e, none frozen. -/
def Room (w : World) (g : Nat) (e : TypeId) (m : Nat) : Prop := ∃ cur : Array Value, w.heap[g]? = some (.cells cur e (0, 0)) ∧ cur.size = m

section
variable {w w' : World} {g m : Nat} {e : TypeId}
theorem Room.lt (h : Room w g e m) : g < w.heap.size := by
  obtain ⟨cur, h, _⟩ := h
  rcases Nat.lt_or_ge g w.heap.size with hlt | hge
  · exact hlt
  · rw [Array.getElem?_eq_none hge] at h; cases h
theorem Room.cell (h : Room w g e m) {i : Nat} (hi : i < m) : ∃ v, w.cell? ⟨g, i, none⟩ = some v := by
  obtain ⟨cur, h, hs⟩ := h
  exact ⟨cur[i]'(by omega), by rw [cell_of_row w g i cur e (0, 0) h]; exact Array.getElem?_eq_getElem (by omega)⟩
theorem Room.frozen (h : Room w g e m) (i : Nat) : w.frozen? ⟨g, i, none⟩ = false := by
  obtain ⟨cur, h, _⟩ := h
  simp [World.frozen?, h]
theorem Room.set_ (h : Room w g e m) (p : Addr) (u : Value) : Room (w.setCell p u) g e m := by
  obtain ⟨cur, h, hs⟩ := h
  by_cases hp : g = p.block
  · subst hp
    by_cases hsp : p.spot.isSome
    · exact ⟨cur, by simp [World.setCell, Array.getElem?_modify, h, hsp], hs⟩
    · exact ⟨cur.setIfInBounds p.off u, by simp [World.setCell, Array.getElem?_modify, h, hsp], by simp [hs]⟩
  · exact ⟨cur, (Below.heap_setCell w p u g hp).trans h, hs⟩
theorem Room.below (h : Room w g e m) (hb : Below w.heap.size w w') : Room w' g e m := by
  have hlt := h.lt
  obtain ⟨cur, h, hs⟩ := h
  exact ⟨cur, (hb.block g hlt).trans h, hs⟩
theorem Room.drew (h : Room w g e m) : Room w.drew g e m := h
theorem Room.of_own {base size n : Nat} {c : Nat} {xs : List Value} (h : w.ownsRow base e size (.slice (some ⟨g, 0, none⟩) n c) n xs) : Room w g e (c * size) := by
  rcases h.2 with ⟨h1, _⟩ | ⟨g', cap, cur, h1, _, hh, _, _, hs, _⟩
  · cases h1
  · injection h1 with h1 h2 h3
    injection h1 with h1
    injection h1 with h1
    subst h1 h3
    exact ⟨cur, hh, hs⟩

variable {α : Type} {E : α → List Value} {k lo hi : Nat} {l : List α}
/-- One more element written at a row's next place. -/
theorem Sl.push {i : Nat} {x : α} (h : Sl E k w lo hi (some ⟨g, 0, none⟩) (l.take i)) (hx : l[i]? = some x) (hE : ∀ y, (E y).length ≤ k) (h1 : lo ≤ g) (h2 : g < hi) (h3 : hi ≤ w'.heap.size) (hR : Room w' g e m)
    (hold : ∀ o, o < i * k → w'.cell? ⟨g, o, none⟩ = w.cell? ⟨g, o, none⟩) (hnew : ∀ j v, (E x)[j]? = some v → w'.cell? ⟨g, i * k + j, none⟩ = some v) : Sl E k w' lo hi (some ⟨g, 0, none⟩) (l.take (i + 1)) := fun _ => by
  refine ⟨g, 0, rfl, h1, h2, h3, fun a y hy j v hv => ⟨?_, hR.frozen _⟩⟩
  have hj : j < k := Nat.lt_of_lt_of_le (List.getElem?_eq_some_iff.1 hv).1 (hE y)
  by_cases ha : a < i
  · have hy' : (l.take i)[a]? = some y := by rw [List.getElem?_take] at hy ⊢; rw [if_pos ha]; rw [if_pos (by omega)] at hy; exact hy
    have hn : l.take i ≠ [] := by intro e; rw [e] at hy'; simp at hy'
    obtain ⟨b, off, e1, _, _, _, f⟩ := h hn
    injection e1 with e1
    injection e1 with e1 e2
    subst e1 e2
    rw [Nat.zero_add]
    have := (f a y hy' j v hv).1
    rw [Nat.zero_add] at this
    rw [hold _ ?_]
    · exact this
    · calc a * k + j < a * k + k := by omega
        _ = (a + 1) * k := by rw [Nat.add_mul, Nat.one_mul]
        _ ≤ i * k := Nat.mul_le_mul_right _ (by omega)
  · have ha' : a = i := by
      rw [List.getElem?_take] at hy
      by_cases hh : a < i + 1
      · omega
      · rw [if_neg hh] at hy; cases hy
    subst ha'
    have : y = x := by
      rw [List.getElem?_take, if_pos (by omega), hx] at hy
      exact (Option.some.inj hy).symm
    subst this
    rw [Nat.zero_add]
    exact hnew j v hv
end

section
variable {w : World} {b off g m : Nat} {e : TypeId} {α : Type} {E : α → List Value} {k lo hi : Nat} {l : List α}

theorem setCells_heap_size (b : Nat) : ∀ (vs : List Value) (o : Nat) (w : World), (w.setCells b o vs).heap.size = w.heap.size
  | [], _, _ => rfl
  | v :: r, o, w => by rw [World.setCells, setCells_heap_size b r]; simp [World.setCell]
theorem Room.setCells (h : Room w g e m) (b o : Nat) (vs : List Value) : Room (w.setCells b o vs) g e m := by
  induction vs generalizing o w with
  | nil => exact h
  | cons v r ih => exact ih (h.set_ ⟨b, o, none⟩ v) (o + 1)

/-- One more element written at a row's next place, all its cells in turn. -/
theorem Sl.push_cells {i : Nat} {x : α} (h : Sl E k w lo hi (some ⟨g, 0, none⟩) (l.take i)) (hx : l[i]? = some x) (hE : ∀ y, (E y).length = k) (h1 : lo ≤ g) (h2 : g < hi) (h3 : hi ≤ w.heap.size) (hR : Room w g e m) (hm : (i + 1) * k ≤ m) :
    Sl E k (w.setCells g (i * k) (E x)) lo hi (some ⟨g, 0, none⟩) (l.take (i + 1)) := by
  have hm' : i * k + k ≤ m := by rw [Nat.add_mul, Nat.one_mul] at hm; exact hm
  refine Sl.push (m := m) (e := e) h hx (fun y => by rw [hE y]; exact Nat.le_refl _) h1 h2 (by rw [setCells_heap_size]; exact h3) (hR.setCells _ _ _) (fun o ho => ?_) (fun j v hv => ?_)
  · exact World.cell?_setCells_out g _ _ _ _ (fun _ _ => Or.inl ho)
  · have hj : j < (E x).length := (List.getElem?_eq_some_iff.1 hv).1
    have := World.cell?_setCells_in g (E x) (i * k) w (fun j hj => by
      rw [hE] at hj
      obtain ⟨u, hu⟩ := hR.cell (i := i * k + j) (by omega)
      rw [hu]; rfl) j hj
    rw [this]
    exact congrArg some (List.getElem?_eq_some_iff.1 hv).2

/-- One cell of one element written. -/
theorem Sl.set1 {i j : Nat} {x y : α} {u : Value} (h : Sl E k w lo hi (some ⟨b, off, none⟩) l) (hx : l[i]? = some x) (hE : ∀ y, (E y).length = k) (hj : j < k) (hy : E y = (E x).set j u) :
    Sl E k (w.setCell ⟨b, off + i * k + j, none⟩ u) lo hi (some ⟨b, off, none⟩) (l.set i y) := fun _ => by
  have hn : l ≠ [] := by rintro rfl; simp at hx
  obtain ⟨b', off', e1, c, d, g, f⟩ := h hn
  injection e1 with e1
  injection e1 with e1 e2
  subst e1 e2
  refine ⟨b, off, rfl, c, d, by simpa [World.setCell] using g, fun a z hz j' v hv => ?_⟩
  have hj' : j' < k := by have := (List.getElem?_eq_some_iff.1 hv).1; rw [hE] at this; exact this
  rw [World.frozen?_setCell]
  by_cases ha : a = i
  · subst ha
    have hz' : z = y := by
      rw [List.getElem?_set_self (List.getElem?_eq_some_iff.1 hx).1] at hz
      exact (Option.some.inj hz).symm
    subst hz'
    have hjx : j' < (E x).length := by rw [hE]; exact hj'
    have hold := f a x hx j' _ (List.getElem?_eq_getElem hjx)
    refine ⟨?_, hold.2⟩
    by_cases hjj : j' = j
    · subst hjj
      rw [hy, List.getElem?_set_self hjx] at hv
      cases hv
      exact World.cell?_setCell_same _ _ _ hold.1
    · rw [hy, List.getElem?_set_ne (fun e => hjj e.symm), List.getElem?_eq_getElem hjx] at hv
      cases hv
      rw [World.cell?_setCell_other _ _ _ _ (by intro e; injection e with _ e _; omega)]
      exact hold.1
  · rw [List.getElem?_set_ne (fun e => ha e.symm)] at hz
    have hold := f a z hz j' v hv
    refine ⟨?_, hold.2⟩
    rw [World.cell?_setCell_other _ _ _ _ ?_]
    · exact hold.1
    · intro e
      injection e with _ e _
      have h1 : i * k + j = a * k + j' := by omega
      have : i = a := by
        have hk : 0 < k := by omega
        have e1 : (i * k + j) / k = i := by rw [Nat.mul_comm, Nat.mul_add_div hk, Nat.div_eq_of_lt hj]; rfl
        have e2 : (a * k + j') / k = a := by rw [Nat.mul_comm, Nat.mul_add_div hk, Nat.div_eq_of_lt hj']; rfl
        rw [← e1, ← e2, h1]
      exact ha this.symm
end

/-- An element of a list below its length. -/
theorem get_lt {α : Type} {l : List α} {i : Nat} (h : i < l.length) : ∃ x, l[i]? = some x ∧ x ∈ l := ⟨l[i], by simp [h], List.getElem_mem h⟩
theorem take_snoc {α : Type} {l : List α} {i : Nat} {x : α} (h : l[i]? = some x) : l.take (i + 1) = l.take i ++ [x] := by
  rw [List.take_add_one, h]; rfl

end Go.Proofs.Ytacjdapfbmdddaa

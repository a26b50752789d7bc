/- Several texts of this seat, one behind the other. Small words that the texts of this seat share: what a call's end says (RV), and that what lay in memory reads as it did (bcell). No conditions. Numbers within bounds, as the program and the reference test them. No conditions. Slices in memory, in plain words: which cells a slice value reads (Sl), and which steps leave them alone. No conditions. Slices that a call builds itself: their rows are its own, appending to them in plain words. No conditions. Regions that draw their order and make memory, by an invariant; append at one operation. No conditions. What calls that return slices leave; function values; searching a list. No conditions. The text that the laws write into strings as a mark: a plain function of its number. Condition: the number lies in 1 .. 99999999. Slices that come in as arguments, opened to plain lists. No conditions. Slices inside structs that come in as arguments, opened. No conditions. Lists of plain elements (string) in memory: comparing, marking. Condition: the numbers of the marks lie in 1 .. 99999999. Lists of plain elements (int) in memory: comparing, marking. Condition: the numbers of the marks lie in 1 .. 99999999. slices.Contains at ints. Condition: at most 2^20 elements. States of an appliance, as the program and the reference test them, and the reference's text of one. No conditions. -/
import Derived.Test.YtjmjilkpckbpeaaGreatDoorRows
import Derived.Test.YtjmjilkpckbpeaaGreatDoorRowD
import Derived.Test.YtjmjilkpckbpeaaGreatDoorShAll
import Derived.Handy
import Derived.WalkLawsBesides
import Derived.WalkSpells
import Derived.BigQuiet
import Derived.Lib.Hide
import Derived.Laws.OwnMore
import Derived.Deep.AppendLies
import Derived.Deep.Draws
import Derived.Laws.Rows
import Derived.Laws.IdiomCopy
import Derived.OwnWalk
import Derived.Laws.AppendOwnNone
import Derived.Deep.RegionHeld3
import Derived.Deep.DeepCutAuto
import Derived.Laws.IdiomStrings
import Derived.Deep.Slices
namespace Go.Proofs.YtjmjilkpckbpeaaGreatDoor
open Go.RowKit

/-- The call returned v; what lay in memory lies as it lay. -/
def RV (w : World) (v : Value) (e : Ending) (w' : World) : Prop := e = .returned v ∧ Below w.heap.size w w'

theorem RV.mk {w w' : World} {v u : Value} (h : u = v) (hb : Below w.heap.size w w') : RV w v (.returned u) w' := ⟨by rw [h], hb⟩

theorem bcell {W w1 : World} (hb : Below W.heap.size W w1) : (∀ b o, b < W.heap.size → w1.cell? ⟨b, o, none⟩ = W.cell? ⟨b, o, none⟩) ∧ (∀ b o, b < W.heap.size → w1.frozen? ⟨b, o, none⟩ = W.frozen? ⟨b, o, none⟩) ∧ W.heap.size ≤ w1.heap.size :=
  ⟨fun b o h => hb.cell (p := ⟨b, o, none⟩) h, fun b o h => hb.frozen (p := ⟨b, o, none⟩) h, hb.size⟩

/-- The same with what the walk needs to follow a block through several calls. -/
theorem bfam {W w1 : World} (hb : Below W.heap.size W w1) : (∀ b o, b < W.heap.size → w1.cell? ⟨b, o, none⟩ = W.cell? ⟨b, o, none⟩) ∧ (∀ b o, b < W.heap.size → w1.frozen? ⟨b, o, none⟩ = W.frozen? ⟨b, o, none⟩) ∧ (∀ b, b < W.heap.size → b < w1.heap.size) ∧ W.heap.size ≤ w1.heap.size :=
  ⟨fun b o h => hb.cell (p := ⟨b, o, none⟩) h, fun b o h => hb.frozen (p := ⟨b, o, none⟩) h, fun _ h => Nat.lt_of_lt_of_le h hb.size, hb.size⟩

/-- Two steps, the second over the world behind the first. -/
theorem Below.on {B : Nat} {a b c : World} (h : Below B a b) (hB : B ≤ b.heap.size) (k : Below b.heap.size b c) : Below B a c := h.trans (k.mono hB)

theorem Below.on' {w W w' : World} (h : Below w.heap.size w W) (k : Below W.heap.size W w') : Below w.heap.size w w' := h.trans (k.mono h.size)
/-- A cell that was there before a call is there behind it. -/
theorem keep {W w' : World} (hb : Below W.heap.size W w') {a : Addr} {v : Value} (h : W.cell? a = some v) : w'.cell? a = some v := (hb.cell (World.block_lt_of_cell? _ _ h)).trans h
theorem lay {W : World} (o : Obj) {a : Addr} {v : Value} (h : W.cell? a = some v) : (W.alloc o).cell? a = some v := (World.cell?_alloc_lt _ _ _ (World.block_lt_of_cell? _ _ h)).trans h
theorem keepF {W W' : World} (hb : Below W.heap.size W W') {a : Addr} {f : Bool} (hl : a.block < W.heap.size) (h : W.frozen? a = f) : W'.frozen? a = f := (hb.frozen hl).trans h
theorem new2 {w w1 : World} {a b : Value} {t : TypeId} (hb : Below (w.drew.alloc (.cells #[a, b] t)).heap.size (w.drew.alloc (.cells #[a, b] t)) w1) :
    w1.cell? ⟨w.heap.size, 0, none⟩ = some a ∧ w1.cell? ⟨w.heap.size, 1, none⟩ = some b ∧ w1.frozen? ⟨w.heap.size, 0, none⟩ = false ∧ w1.frozen? ⟨w.heap.size, 1, none⟩ = false := by
  refine ⟨keep hb ?_, keep hb ?_, keepF hb ?_ ?_, keepF hb ?_ ?_⟩
  · rw [World.cell?_alloc_at _ _ _ _ (by simp)]; rfl
  · rw [World.cell?_alloc_at _ _ _ _ (by simp)]; rfl
  · simp
  · exact World.frozen?_alloc_at _ _ _ _ (by simp)
  · simp
  · exact World.frozen?_alloc_at _ _ _ _ (by simp)
theorem two_set {X : World} {B : Nat} {a b x y : Value} (h0 : X.cell? ⟨B, 0, none⟩ = some a) (h1 : X.cell? ⟨B, 1, none⟩ = some b) :
    ((X.setCell ⟨B, 0, none⟩ x).setCell ⟨B, 1, none⟩ y).cell? ⟨B, 0, none⟩ = some x ∧ ((X.setCell ⟨B, 0, none⟩ x).setCell ⟨B, 1, none⟩ y).cell? ⟨B, 1, none⟩ = some y :=
  ⟨(World.cell?_setCell_other _ _ _ _ (by simp)).trans (World.cell?_setCell_same _ _ _ h0), World.cell?_setCell_same _ _ _ ((World.cell?_setCell_other _ _ _ _ (by simp)).trans h1)⟩
theorem relay {W : World} {o o' : Obj} {a : Addr} {v : Value} (h : (W.alloc o).cell? a = some v) (hn : a.block ≠ W.heap.size) : (W.alloc o').cell? a = some v := by
  rw [World.cell?_alloc_old _ _ _ hn] at h ⊢; exact h
theorem unset {W : World} {p a : Addr} {v u : Value} (h : W.cell? a = some v) (hn : p.block ≠ a.block) : (W.setCell p u).cell? a = some v := by
  rw [World.cell?_setCell_other _ _ _ _ (fun e => hn (by rw [e]))]; exact h
theorem Below.lay {w W : World} (h : Below w.heap.size w W) (o : Obj) : Below w.heap.size w (W.alloc o) := h.alloc h.size o
theorem vbool {a b : Bool} (h : a = b) : Value.bool a = .bool b := by rw [h]
theorem vint {k : IntKind} {a b : Int} (h : a = b) : Value.int k a = .int k b := by rw [h]

end Go.Proofs.YtjmjilkpckbpeaaGreatDoor
namespace Go.Proofs.YtjmjilkpckbpeaaGreatDoor
open Go.RowKit

def inB (n a b : Int) : Bool := decide (a ≤ n) && decide (n ≤ b)
def minB (m : Int) : Bool := inB m 0 99999
def roomB (r : Int) : Bool := inB r 1 2

theorem inside_any (n a b : Int) (w : World) : Calls Tryz.prog 65 #[.int .i64 n, .int .i64 a, .int .i64 b] w (RV w (.bool (inB n a b))) := by
  go_enter Tryz.func65, Tryz.ntmps65
  go_wp2
  all_goals go_ret
  all_goals exact RV.mk (vbool (by rw [Bool.eq_iff_iff]; first | (simp [inB] <;> omega) | (simp_all [inB] <;> omega))) (by go_grown)
theorem l1In_any (n a b : Int) (w : World) : Calls Tryz.prog 69 #[.int .i64 n, .int .i64 a, .int .i64 b] w (RV w (.bool (inB n a b))) := by
  go_enter Tryz.func69, Tryz.ntmps69
  go_wp2
  all_goals go_ret
  all_goals exact RV.mk (vbool (by rw [Bool.eq_iff_iff]; first | (simp [inB] <;> omega) | (simp_all [inB] <;> omega))) (by go_grown)

end Go.Proofs.YtjmjilkpckbpeaaGreatDoor
namespace Go.Proofs.YtjmjilkpckbpeaaGreatDoor
open Go.RowKit

/-- The slice value with address A reads the list l: each element x as the cells E x, k cells apart; all of it in blocks lo to hi, and none of it frozen. -/
def Sl {α : Type} (E : α → List Value) (k : Nat) (w : World) (lo hi : Nat) (A : Option Addr) (l : List α) : Prop :=
  l ≠ [] → ∃ b off, A = some ⟨b, off, none⟩ ∧ lo ≤ b ∧ b < hi ∧ hi ≤ w.heap.size ∧
    ∀ i x, l[i]? = some x → ∀ j v, (E x)[j]? = some v → w.cell? ⟨b, off + i * k + j, none⟩ = some v ∧ w.frozen? ⟨b, off + i * k + j, none⟩ = false

/-- Blocks outside lo to hi lie as they lay. -/
structure Fr (lo hi : Nat) (w w' : World) : Prop where
  os : w'.os = w.os
  tape : w'.tape = w.tape
  output : w'.output = w.output
  size : w.heap.size ≤ w'.heap.size
  block : ∀ b, b < w.heap.size → ¬ (lo ≤ b ∧ b < hi) → w'.heap[b]? = w.heap[b]?

theorem Fr.below {lo hi B : Nat} {w w' : World} (h : Fr lo hi w w') (hB : B ≤ lo) (hs : B ≤ w.heap.size) : Below B w w' :=
  ⟨h.os, h.tape, h.output, h.size, fun b hb => h.block b (by omega) (by omega)⟩
theorem Fr.of_below {w w' : World} (h : Below w.heap.size w w') : Fr 0 0 w w' := ⟨h.os, h.tape, h.output, h.size, fun b hb _ => h.block b hb⟩
theorem Fr.refl (lo hi : Nat) (w : World) : Fr lo hi w w := ⟨rfl, rfl, rfl, Nat.le_refl _, fun _ _ _ => rfl⟩
theorem Fr.trans {lo hi : Nat} {a b c : World} (h : Fr lo hi a b) (k : Fr lo hi b c) : Fr lo hi a c :=
  ⟨k.os.trans h.os, k.tape.trans h.tape, k.output.trans h.output, Nat.le_trans h.size k.size, fun i hi1 hi2 => (k.block i (Nat.lt_of_lt_of_le hi1 h.size) hi2).trans (h.block i hi1 hi2)⟩
theorem Fr.on {lo hi : Nat} {w W W' : World} (h : Fr lo hi w W) (k : Below W.heap.size W W') : Fr lo hi w W' := h.trans ⟨k.os, k.tape, k.output, k.size, fun b hb _ => k.block b hb⟩
theorem Fr.setCell {lo hi : Nat} {w W : World} (h : Fr lo hi w W) {p : Addr} (hp : lo ≤ p.block ∧ p.block < hi) (u : Value) : Fr lo hi w (W.setCell p u) :=
  h.trans ⟨rfl, rfl, rfl, by simp [World.setCell], fun b _ hb => Below.heap_setCell _ _ _ _ (by intro e; subst e; exact hb hp)⟩
theorem Fr.drew {lo hi : Nat} {w W : World} (h : Fr lo hi w W) : Fr lo hi w W.drew := ⟨h.os, h.tape, h.output, h.size, h.block⟩

section
variable {α : Type} {E : α → List Value} {k : Nat} {w w' : World} {lo hi lo' hi' : Nat} {A : Option Addr} {l : List α}

theorem Sl.nil_ : Sl E k w lo hi A ([] : List α) := fun h => absurd rfl h
theorem Sl.mono (h : Sl E k w lo hi A l) (h1 : lo' ≤ lo) (h2 : hi ≤ hi') (h3 : hi' ≤ w.heap.size) : Sl E k w lo' hi' A l := fun hn => by
  obtain ⟨b, off, e, c, d, _, f⟩ := h hn
  exact ⟨b, off, e, by omega, by omega, h3, f⟩
theorem Sl.keep (h : Sl E k w lo hi A l) (hk : ∀ b, lo ≤ b → b < hi → w'.heap[b]? = w.heap[b]?) (hs : w.heap.size ≤ w'.heap.size) : Sl E k w' lo hi A l := fun hn => by
  obtain ⟨b, off, e, c, d, g, f⟩ := h hn
  refine ⟨b, off, e, c, d, by omega, fun i x hx j v hv => ?_⟩
  have hb := hk b c d
  exact ⟨(World.cell?_of_block (w := w) hb).trans (f i x hx j v hv).1, (World.frozen?_of_block (w := w) hb).trans (f i x hx j v hv).2⟩
theorem Sl.below (h : Sl E k w lo hi A l) (hb : Below w.heap.size w w') : Sl E k w' lo hi A l := fun hn => by
  obtain ⟨b, off, e, c, d, g, f⟩ := h hn
  exact h.keep (fun b _ hb' => hb.block b (by omega)) hb.size hn
theorem Sl.fr (h : Sl E k w lo hi A l) (hf : Fr lo' hi' w w') (hd : hi ≤ lo' ∨ hi' ≤ lo) : Sl E k w' lo hi A l := fun hn => by
  obtain ⟨b, off, e, c, d, g, f⟩ := h hn
  exact h.keep (fun b h1 h2 => hf.block b (by omega) (by omega)) hf.size hn
theorem Sl.alloc (h : Sl E k w lo hi A l) (o : Obj) : Sl E k (w.alloc o) lo hi A l := h.below ((Below.refl _ _).alloc (Nat.le_refl _) o)
theorem Sl.drew (h : Sl E k w lo hi A l) : Sl E k w.drew lo hi A l := h
/-- What the i-th element's cells hold. -/
theorem Sl.at_ (h : Sl E k w lo hi A l) {i : Nat} {x : α} (hx : l[i]? = some x) : ∃ b off, A = some ⟨b, off, none⟩ ∧ lo ≤ b ∧ b < hi ∧ hi ≤ w.heap.size ∧ ∀ j v, (E x)[j]? = some v → w.cell? ⟨b, off + i * k + j, none⟩ = some v ∧ w.frozen? ⟨b, off + i * k + j, none⟩ = false := by
  have hn : l ≠ [] := by rintro rfl; simp at hx
  obtain ⟨b, off, e, c, d, g, f⟩ := h hn
  exact ⟨b, off, e, c, d, g, fun j v hv => f i x hx j v hv⟩
end

/-- Block g is a row of m cells of type e, none frozen. -/
def Room (w : World) (g : Nat) (e : TypeId) (m : Nat) : Prop := ∃ cur : Array Value, w.heap[g]? = some (.cells cur e (0, 0)) ∧ cur.size = m

section
variable {w w' : World} {g m : Nat} {e : TypeId}
theorem Room.lt (h : Room w g e m) : g < w.heap.size := by
  obtain ⟨cur, h, _⟩ := h
  rcases Nat.lt_or_ge g w.heap.size with hlt | hge
  · exact hlt
  · rw [Array.getElem?_eq_none hge] at h; cases h
theorem Room.cell (h : Room w g e m) {i : Nat} (hi : i < m) : ∃ v, w.cell? ⟨g, i, none⟩ = some v := by
  obtain ⟨cur, h, hs⟩ := h
  exact ⟨cur[i]'(by omega), by rw [cell_of_row w g i cur e (0, 0) h]; exact Array.getElem?_eq_getElem (by omega)⟩
theorem Room.frozen (h : Room w g e m) (i : Nat) : w.frozen? ⟨g, i, none⟩ = false := by
  obtain ⟨cur, h, _⟩ := h
  simp [World.frozen?, h]
theorem Room.set_ (h : Room w g e m) (p : Addr) (u : Value) : Room (w.setCell p u) g e m := by
  obtain ⟨cur, h, hs⟩ := h
  by_cases hp : g = p.block
  · subst hp
    by_cases hsp : p.spot.isSome
    · exact ⟨cur, by simp [World.setCell, Array.getElem?_modify, h, hsp], hs⟩
    · exact ⟨cur.setIfInBounds p.off u, by simp [World.setCell, Array.getElem?_modify, h, hsp], by simp [hs]⟩
  · exact ⟨cur, (Below.heap_setCell w p u g hp).trans h, hs⟩
theorem Room.below (h : Room w g e m) (hb : Below w.heap.size w w') : Room w' g e m := by
  have hlt := h.lt
  obtain ⟨cur, h, hs⟩ := h
  exact ⟨cur, (hb.block g hlt).trans h, hs⟩
theorem Room.drew (h : Room w g e m) : Room w.drew g e m := h
theorem Room.of_own {base size n : Nat} {c : Nat} {xs : List Value} (h : w.ownsRow base e size (.slice (some ⟨g, 0, none⟩) n c) n xs) : Room w g e (c * size) := by
  rcases h.2 with ⟨h1, _⟩ | ⟨g', cap, cur, h1, _, hh, _, _, hs, _⟩
  · cases h1
  · injection h1 with h1 h2 h3
    injection h1 with h1
    injection h1 with h1
    subst h1 h3
    exact ⟨cur, hh, hs⟩

variable {α : Type} {E : α → List Value} {k lo hi : Nat} {l : List α}
/-- One more element written at a row's next place. -/
theorem Sl.push {i : Nat} {x : α} (h : Sl E k w lo hi (some ⟨g, 0, none⟩) (l.take i)) (hx : l[i]? = some x) (hE : ∀ y, (E y).length ≤ k) (h1 : lo ≤ g) (h2 : g < hi) (h3 : hi ≤ w'.heap.size) (hR : Room w' g e m)
    (hold : ∀ o, o < i * k → w'.cell? ⟨g, o, none⟩ = w.cell? ⟨g, o, none⟩) (hnew : ∀ j v, (E x)[j]? = some v → w'.cell? ⟨g, i * k + j, none⟩ = some v) : Sl E k w' lo hi (some ⟨g, 0, none⟩) (l.take (i + 1)) := fun _ => by
  refine ⟨g, 0, rfl, h1, h2, h3, fun a y hy j v hv => ⟨?_, hR.frozen _⟩⟩
  have hj : j < k := Nat.lt_of_lt_of_le (List.getElem?_eq_some_iff.1 hv).1 (hE y)
  by_cases ha : a < i
  · have hy' : (l.take i)[a]? = some y := by rw [List.getElem?_take] at hy ⊢; rw [if_pos ha]; rw [if_pos (by omega)] at hy; exact hy
    have hn : l.take i ≠ [] := by intro e; rw [e] at hy'; simp at hy'
    obtain ⟨b, off, e1, _, _, _, f⟩ := h hn
    injection e1 with e1
    injection e1 with e1 e2
    subst e1 e2
    rw [Nat.zero_add]
    have := (f a y hy' j v hv).1
    rw [Nat.zero_add] at this
    rw [hold _ ?_]
    · exact this
    · calc a * k + j < a * k + k := by omega
        _ = (a + 1) * k := by rw [Nat.add_mul, Nat.one_mul]
        _ ≤ i * k := Nat.mul_le_mul_right _ (by omega)
  · have ha' : a = i := by
      rw [List.getElem?_take] at hy
      by_cases hh : a < i + 1
      · omega
      · rw [if_neg hh] at hy; cases hy
    subst ha'
    have : y = x := by
      rw [List.getElem?_take, if_pos (by omega), hx] at hy
      exact (Option.some.inj hy).symm
    subst this
    rw [Nat.zero_add]
    exact hnew j v hv
end

section
variable {w : World} {b off g m : Nat} {e : TypeId} {α : Type} {E : α → List Value} {k lo hi : Nat} {l : List α}

theorem setCells_heap_size (b : Nat) : ∀ (vs : List Value) (o : Nat) (w : World), (w.setCells b o vs).heap.size = w.heap.size
  | [], _, _ => rfl
  | v :: r, o, w => by rw [World.setCells, setCells_heap_size b r]; simp [World.setCell]
theorem Room.setCells (h : Room w g e m) (b o : Nat) (vs : List Value) : Room (w.setCells b o vs) g e m := by
  induction vs generalizing o w with
  | nil => exact h
  | cons v r ih => exact ih (h.set_ ⟨b, o, none⟩ v) (o + 1)

/-- One more element written at a row's next place, all its cells in turn. -/
theorem Sl.push_cells {i : Nat} {x : α} (h : Sl E k w lo hi (some ⟨g, 0, none⟩) (l.take i)) (hx : l[i]? = some x) (hE : ∀ y, (E y).length = k) (h1 : lo ≤ g) (h2 : g < hi) (h3 : hi ≤ w.heap.size) (hR : Room w g e m) (hm : (i + 1) * k ≤ m) :
    Sl E k (w.setCells g (i * k) (E x)) lo hi (some ⟨g, 0, none⟩) (l.take (i + 1)) := by
  have hm' : i * k + k ≤ m := by rw [Nat.add_mul, Nat.one_mul] at hm; exact hm
  refine Sl.push (m := m) (e := e) h hx (fun y => by rw [hE y]; exact Nat.le_refl _) h1 h2 (by rw [setCells_heap_size]; exact h3) (hR.setCells _ _ _) (fun o ho => ?_) (fun j v hv => ?_)
  · exact World.cell?_setCells_out g _ _ _ _ (fun _ _ => Or.inl ho)
  · have hj : j < (E x).length := (List.getElem?_eq_some_iff.1 hv).1
    have := World.cell?_setCells_in g (E x) (i * k) w (fun j hj => by
      rw [hE] at hj
      obtain ⟨u, hu⟩ := hR.cell (i := i * k + j) (by omega)
      rw [hu]; rfl) j hj
    rw [this]
    exact congrArg some (List.getElem?_eq_some_iff.1 hv).2

/-- One cell of one element written. -/
theorem Sl.set1 {i j : Nat} {x y : α} {u : Value} (h : Sl E k w lo hi (some ⟨b, off, none⟩) l) (hx : l[i]? = some x) (hE : ∀ y, (E y).length = k) (hj : j < k) (hy : E y = (E x).set j u) :
    Sl E k (w.setCell ⟨b, off + i * k + j, none⟩ u) lo hi (some ⟨b, off, none⟩) (l.set i y) := fun _ => by
  have hn : l ≠ [] := by rintro rfl; simp at hx
  obtain ⟨b', off', e1, c, d, g, f⟩ := h hn
  injection e1 with e1
  injection e1 with e1 e2
  subst e1 e2
  refine ⟨b, off, rfl, c, d, by simpa [World.setCell] using g, fun a z hz j' v hv => ?_⟩
  have hj' : j' < k := by have := (List.getElem?_eq_some_iff.1 hv).1; rw [hE] at this; exact this
  rw [World.frozen?_setCell]
  by_cases ha : a = i
  · subst ha
    have hz' : z = y := by
      rw [List.getElem?_set_self (List.getElem?_eq_some_iff.1 hx).1] at hz
      exact (Option.some.inj hz).symm
    subst hz'
    have hjx : j' < (E x).length := by rw [hE]; exact hj'
    have hold := f a x hx j' _ (List.getElem?_eq_getElem hjx)
    refine ⟨?_, hold.2⟩
    by_cases hjj : j' = j
    · subst hjj
      rw [hy, List.getElem?_set_self hjx] at hv
      cases hv
      exact World.cell?_setCell_same _ _ _ hold.1
    · rw [hy, List.getElem?_set_ne (fun e => hjj e.symm), List.getElem?_eq_getElem hjx] at hv
      cases hv
      rw [World.cell?_setCell_other _ _ _ _ (by intro e; injection e with _ e _; omega)]
      exact hold.1
  · rw [List.getElem?_set_ne (fun e => ha e.symm)] at hz
    have hold := f a z hz j' v hv
    refine ⟨?_, hold.2⟩
    rw [World.cell?_setCell_other _ _ _ _ ?_]
    · exact hold.1
    · intro e
      injection e with _ e _
      have h1 : i * k + j = a * k + j' := by omega
      have : i = a := by
        have hk : 0 < k := by omega
        have e1 : (i * k + j) / k = i := by rw [Nat.mul_comm, Nat.mul_add_div hk, Nat.div_eq_of_lt hj]; rfl
        have e2 : (a * k + j') / k = a := by rw [Nat.mul_comm, Nat.mul_add_div hk, Nat.div_eq_of_lt hj']; rfl
        rw [← e1, ← e2, h1]
      exact ha this.symm
end

/-- An element of a list below its length. -/
theorem get_lt {α : Type} {l : List α} {i : Nat} (h : i < l.length) : ∃ x, l[i]? = some x ∧ x ∈ l := ⟨l[i], by simp [h], List.getElem_mem h⟩
theorem take_snoc {α : Type} {l : List α} {i : Nat} {x : α} (h : l[i]? = some x) : l.take (i + 1) = l.take i ++ [x] := by
  rw [List.take_add_one, h]; rfl

end Go.Proofs.YtjmjilkpckbpeaaGreatDoor
namespace Go.Proofs.YtjmjilkpckbpeaaGreatDoor
open Go.RowKit

theorem Sl.all {α : Type} {E : α → List Value} {k : Nat} {w : World} {lo hi : Nat} {A : Option Addr} {l : List α} (h : Sl E k w lo hi A l) : Sl E k w 0 w.heap.size A l := fun hn => by
  obtain ⟨b, off, e, c, d, g, f⟩ := h hn
  exact ⟨b, off, e, Nat.zero_le _, by omega, Nat.le_refl _, f⟩
theorem big {n : Nat} (h : n ≤ 1048576) : n ≤ maxLen := by unfold maxLen; omega
theorem bigs {α : Type} {f : α → Nat} {l : List α} (h : ∀ x ∈ l, f x ≤ 1048576) : ∀ x ∈ l, f x ≤ maxLen := fun x hx => big (h x hx)

/-- The slice value with address A and capacity c lies in a row of the call's own, in a block from base on, and reads l. -/
def Own {α : Type} (E : α → List Value) (k : Nat) (T : TypeId) (w : World) (base : Nat) (A : Option Addr) (c : Nat) (l : List α) : Prop :=
  w.ownsRow base T k (.slice A l.length c) l.length (l.flatMap E)

section
variable {α : Type} {E : α → List Value} {k : Nat} {T : TypeId} {w w' : World} {base : Nat} {A : Option Addr} {c : Nat} {l : List α}

theorem Own.nil_ : Own E k T w base none 0 ([] : List α) := ⟨by simp, .inl ⟨rfl, rfl⟩⟩
theorem flat_len (hE : ∀ x, (E x).length = k) : ∀ l : List α, (l.flatMap E).length = l.length * k
  | [] => by simp
  | x :: l => by rw [List.flatMap_cons, List.length_append, flat_len hE l, hE, List.length_cons, Nat.add_mul, Nat.one_mul, Nat.add_comm]
theorem flat_at (hE : ∀ x, (E x).length = k) : ∀ (l : List α) (i : Nat) (x : α), l[i]? = some x → ∀ j v, (E x)[j]? = some v → (l.flatMap E)[i * k + j]? = some v
  | [], i, x, h, _, _, _ => by simp at h
  | y :: l, 0, x, h, j, v, hv => by
    have : y = x := by simpa using h
    subst this
    have hj := (List.getElem?_eq_some_iff.1 hv).1
    rw [List.flatMap_cons, Nat.zero_mul, Nat.zero_add, List.getElem?_append_left hj]
    exact hv
  | y :: l, i + 1, x, h, j, v, hv => by
    have h' : l[i]? = some x := by simpa using h
    rw [List.flatMap_cons, List.getElem?_append_right (by rw [hE, Nat.add_mul]; omega), hE]
    rw [show (i + 1) * k + j - k = i * k + j by rw [Nat.add_mul]; omega]
    exact flat_at hE l i x h' j v hv
theorem Own.sl (h : Own E k T w base A c l) (hE : ∀ x, (E x).length = k) : Sl E k w base w.heap.size A l := fun hn => by
  rcases h.2 with ⟨h1, _⟩ | ⟨g, cap, cur, h1, hb, hg, hc, _, hs, ht⟩
  · injection h1 with _ h1 _
    exact absurd (List.eq_nil_of_length_eq_zero h1) hn
  · injection h1 with h1 _ h2
    subst h1
    have hlt : g < w.heap.size := by
      rcases Nat.lt_or_ge g w.heap.size with hlt | hge
      · exact hlt
      · rw [Array.getElem?_eq_none hge] at hg; cases hg
    refine ⟨g, 0, rfl, hb, hlt, Nat.le_refl _, fun i x hx j v hv => ⟨?_, ?_⟩⟩
    · have hi := (List.getElem?_eq_some_iff.1 hx).1
      have hj := (List.getElem?_eq_some_iff.1 hv).1
      rw [hE] at hj
      have hlt2 : i * k + j < l.length * k := by
        calc i * k + j < i * k + k := by omega
          _ = (i + 1) * k := by rw [Nat.add_mul, Nat.one_mul]
          _ ≤ l.length * k := Nat.mul_le_mul_right _ (by omega)
      have := flat_at hE l i x hx j v hv
      rw [← ht, List.getElem?_take, if_pos hlt2] at this
      rw [Nat.zero_add, cell_of_row w g _ cur T (0, 0) hg]
      simpa using this
    · simp [World.frozen?, hg]
theorem Own.cap (h : Own E k T w base A c l) : l.length ≤ c := by
  rcases h.2 with ⟨h1, h2⟩ | ⟨g, cap, cur, h1, _, _, hc, _⟩
  · omega
  · injection h1 with _ _ h2
    omega
theorem Own.capMax (h : Own E k T w base A c l) : c ≤ maxLen := by
  rcases h.2 with ⟨h1, h2⟩ | ⟨g, cap, cur, h1, _, _, hc, hm, _⟩
  · injection h1 with _ _ h1
    omega
  · injection h1 with _ _ h2
    omega
theorem Own.none_ (h : Own E k T w base A c l) (hA : A = none) : c = 0 ∧ l = [] := by
  subst hA
  rcases h.2 with ⟨h1, h2⟩ | ⟨g, cap, cur, h1, _⟩
  · injection h1 with _ h1 h3
    exact ⟨h3, List.eq_nil_of_length_eq_zero h2⟩
  · cases h1
theorem Own.keep (h : Own E k T w base A c l) (hk : ∀ b, base ≤ b → b < w.heap.size → w'.heap[b]? = w.heap[b]?) : Own E k T w' base A c l := by
  refine ⟨h.1, ?_⟩
  rcases h.2 with h1 | ⟨g, cap, cur, h1, hb, hg, h2⟩
  · exact .inl h1
  · have hlt : g < w.heap.size := by
      rcases Nat.lt_or_ge g w.heap.size with hlt | hge
      · exact hlt
      · rw [Array.getElem?_eq_none hge] at hg; cases hg
    exact .inr ⟨g, cap, cur, h1, hb, (hk g hb hlt).trans hg, h2⟩
theorem Own.lift {b0 : Nat} (h : Own E k T w base A c l) (hb : b0 ≤ base) : Own E k T w b0 A c l := by
  refine ⟨h.1, ?_⟩
  rcases h.2 with h1 | ⟨g, cap, cur, h1, h2, h3⟩
  · exact .inl h1
  · exact .inr ⟨g, cap, cur, h1, by omega, h3⟩
theorem Own.below (h : Own E k T w base A c l) (hb : Below w.heap.size w w') : Own E k T w' base A c l := h.keep fun b _ hlt => hb.block b hlt
theorem Own.drew (h : Own E k T w base A c l) : Own E k T w.drew base A c l := h
theorem Own.drewN (h : Own E k T w base A c l) (n : Nat) : Own E k T (w.drewN n) base A c l := h
theorem Own.alloc (h : Own E k T w base A c l) (o : Obj) : Own E k T (w.alloc o) base A c l := h.below ((Below.refl _ _).alloc (Nat.le_refl _) o)
/-- An empty slice that was just made. -/
theorem Own.empty (w : World) (hb : base ≤ w.heap.size) : Own E k T (w.alloc (.cells #[] T)) base (some ⟨w.heap.size, 0, none⟩) 0 ([] : List α) :=
  World.ownsRow_lit w #[] 0 hb (Nat.zero_le _) (by simp)
theorem Own.base_lt (h : Own E k T w base A c l) (hA : A ≠ none) : base < w.heap.size := by
  rcases h.2 with ⟨h1, h2⟩ | ⟨g, cap, cur, h1, hb, hg, _⟩
  · injection h1 with h1; exact absurd h1 hA
  · rcases Nat.lt_or_ge g w.heap.size with hlt | hge
    · omega
    · rw [Array.getElem?_eq_none hge] at hg; cases hg
end

/-- The cells of an element that was just laid in a block of its own. -/
theorem new_cells {α : Type} {E : α → List Value} (w : World) (T : TypeId) (y : α) (cs : Array Value) (h : cs = (E y).toArray) : ∀ j u, (E y)[j]? = some u → (w.alloc (.cells cs T)).cell? ⟨w.heap.size, j, none⟩ = some u := by
  intro j u hu
  subst h
  rw [World.cell?_alloc_at _ _ _ _ rfl]
  simpa using hu

theorem run_append_none_any {P : Program} (w : World) (base : Nat) (t ty e : TypeId) (i : TypeInfo) (size : Nat) (ht : P.underlying t = some (.slice e)) (hi : P.info? e = some i)
    (v : Value) (n : Nat) (xs : List Value) (c : Nat) (hown : w.ownsRow base e size v n xs) :
    (Builtin.append_ #[t, t] ty #[v, .slice none 0 c]).run P w = .ok v w := by
  rcases hown.2 with ⟨rfl, rfl⟩ | ⟨g, cap, cur, rfl, _, _, hnc, _⟩
  · simp [Builtin.append_, run_underlying ht, sizeOf, typeInfo, hi, Builtin.lenOf, Builtin.firstCells]
  · simp [Builtin.append_, run_underlying ht, sizeOf, typeInfo, hi, Builtin.lenOf, Builtin.firstCells, hnc, storeCells]

theorem own_block {w : World} {base : Nat} {e : TypeId} {size : Nat} {v : Value} {n : Nat} {xs : List Value} (h : w.ownsRow base e size v n xs) : ∀ b, v.ownBlock = some b → base ≤ b := by
  rcases h.2 with ⟨rfl, _⟩ | ⟨g, cap, cur, rfl, hb, _⟩
  · intro b hb; cases hb
  · intro b hb'
    simp [Value.ownBlock] at hb'
    omega
theorem own_form {w : World} {base : Nat} {e : TypeId} {size : Nat} {v : Value} {n : Nat} {xs : List Value} (h : w.ownsRow base e size v n xs) : ∃ A c, v = .slice A n c := by
  rcases h.2 with ⟨rfl, rfl⟩ | ⟨g, cap, cur, rfl, _⟩
  · exact ⟨none, 0, rfl⟩
  · exact ⟨_, _, rfl⟩

section
variable {P : Program} {α : Type} {E : α → List Value} {k : Nat} {T : TypeId} {base : Nat} {A A2 : Option Addr} {c c2 lo up : Nat} {l l2 : List α}
/-- append(s, l2...): s a slice of the call's own, l2 any. -/
theorem wpList_append_all (w : World) {ops : Array Oper} {rest : List Oper} {o : Oper} {a : Act} {Q : Exit → Act → World → Prop} (hgd : o.guard = none) (s x : Operand) (t : TypeId)
    (ho : o.op = .call { callee := .builtin .append, args := #[s, x], argTypes := #[t, t] })
    (i : TypeInfo) (z : Value) (bytes : Nat) (ht : P.underlying t = some (.slice T)) (hi : P.info? T = some i) (hz : i.zero = some z) (hsize : i.size = k) (hby : i.bytes = bytes) (hzs : z.cells.size = k) (hk : 0 < k)
    (hE : ∀ x, (E x).length = k) (h1 : ∀ x, ∀ u ∈ E x, u.oneCell' = true)
    (hO : Own E k T w base A c l) (hS : Sl E k w lo up A2 l2) (hs : a.eval s = .slice A l.length c) (hx : a.eval x = .slice A2 l2.length c2)
    (h63 : l.length + l2.length ≤ maxLen) (hbytes : (l.length + l2.length) * bytes ≤ 140737488355328) (hbase : base ≤ w.heap.size)
    (h : ∀ A' c' w' L, Hid (L = l ++ l2) → Own E k T w' base A' c' L → Below base w w' → wpList P ops Q rest (a.put o.dst (.slice A' L.length c')) w') : wpList P ops Q (o :: rest) a w := by
  replace h := fun A' c' w' => h A' c' w' (l ++ l2) rfl
  cases hA : A2 with
  | none =>
    have hl2 : l2 = [] := by
      by_cases hn : l2 = []
      · exact hn
      · obtain ⟨b, off, e, _⟩ := hS hn
        rw [hA] at e; cases e
    subst hl2 hA
    refine wpList_plain hgd fun K hK => ?_
    have hrun := run_append_none_any (P := P) w base t o.type T i k ht hi _ _ _ c2 hO
    unfold Oper.wp
    simp [execOp, ho, resolve, invoke, builtin, hs, hx, hrun, Result.andThen]
    have := h A c w (by simpa using hO) (Below.refl _ _)
    simp at this
    exact hK _ _ this
  | some ad =>
    subst hA
    refine wpList_append_own w hgd s x t ho base T i z k bytes ht hi hz hsize hby hzs hk _ l.length _ hs hO ad l2.length c2 (l2.flatMap E) hx (flat_len hE l2) ?_ ?_ h63 hbytes hbase ?_
    · intro j u hu
      have hn : l2 ≠ [] := by rintro rfl; simp at hu
      obtain ⟨b, off, e, _, _, _, f⟩ := hS hn
      injection e with e
      subst e
      have hj : j < l2.length * k := by rw [← flat_len hE l2]; exact (List.getElem?_eq_some_iff.1 hu).1
      have hq : j / k < l2.length := Nat.div_lt_of_lt_mul (by rw [Nat.mul_comm]; exact hj)
      have hx' : l2[j / k]? = some l2[j / k] := List.getElem?_eq_getElem hq
      have hr : j % k < (E l2[j / k]).length := by rw [hE]; exact Nat.mod_lt _ hk
      have hv := List.getElem?_eq_getElem hr
      have hcell := (f _ _ hx' _ _ hv).1
      have hu2 := flat_at hE l2 _ _ hx' _ _ hv
      have hjj : j / k * k + j % k = j := by rw [Nat.mul_comm]; exact Nat.div_add_mod j k
      rw [hjj, hu] at hu2
      rw [Addr.add_lit, ← hjj, ← Nat.add_assoc, hcell]
      exact hu2.symm
    · intro u hu
      obtain ⟨y, _, hy⟩ := List.mem_flatMap.1 hu
      exact h1 y u hy
    · intro v' w' hown hg _
      obtain ⟨A', c', rfl⟩ := own_form hown
      have e1 : (l ++ l2).length = l.length + l2.length := List.length_append
      have := h A' c' w' (by unfold Own; rw [e1, List.flatMap_append]; exact hown) ⟨hg.os, hg.tape, hg.output, hg.size, fun b hb => ?_⟩
      · rw [e1] at this
        exact this
      · exact hg.block b (by omega) (fun e => by have := own_block hO b e.symm; omega)
/-- append(s, x): the new element lies in a block of its own. -/
theorem wpList_append_one (w : World) {ops : Array Oper} {rest : List Oper} {o : Oper} {a : Act} {Q : Exit → Act → World → Prop} (hgd : o.guard = none) (s x : Operand) (t : TypeId)
    (ho : o.op = .call { callee := .builtin .append, args := #[s, x], argTypes := #[t, t] })
    (i : TypeInfo) (z : Value) (bytes : Nat) (ht : P.underlying t = some (.slice T)) (hi : P.info? T = some i) (hz : i.zero = some z) (hsize : i.size = k) (hby : i.bytes = bytes) (hzs : z.cells.size = k) (hk : 0 < k)
    (hE : ∀ x, (E x).length = k) (h1 : ∀ x, ∀ u ∈ E x, u.oneCell' = true) (y : α) (B : Nat)
    (hO : Own E k T w base A c l) (hs : a.eval s = .slice A l.length c) (hx : a.eval x = .slice (some ⟨B, 0, none⟩) 1 1) (hB : ∀ j u, (E y)[j]? = some u → w.cell? ⟨B, j, none⟩ = some u)
    (h63 : l.length + 1 ≤ maxLen) (hbytes : (l.length + 1) * bytes ≤ 140737488355328) (hbase : base ≤ w.heap.size)
    (h : ∀ A' c' w' L, Hid (L = l ++ [y]) → Own E k T w' base A' c' L → Below base w w' → wpList P ops Q rest (a.put o.dst (.slice A' L.length c')) w') : wpList P ops Q (o :: rest) a w := by
  replace h := fun A' c' w' => h A' c' w' (l ++ [y]) rfl
  refine wpList_append_own w hgd s x t ho base T i z k bytes ht hi hz hsize hby hzs hk _ l.length _ hs hO ⟨B, 0, none⟩ 1 1 (E y) hx (by rw [hE, Nat.one_mul]) ?_ (h1 y) h63 hbytes hbase ?_
  · intro j u hu
    rw [Addr.add_lit, Nat.zero_add]
    exact hB j u hu
  · intro v' w' hown hg _
    obtain ⟨A', c', rfl⟩ := own_form hown
    have e1 : (l ++ [y]).length = l.length + 1 := by simp
    have := h A' c' w' (by unfold Own; rw [e1, List.flatMap_append]; simpa using hown) ⟨hg.os, hg.tape, hg.output, hg.size, fun b hb => ?_⟩
    · rw [e1] at this
      exact this
    · exact hg.block b (by omega) (fun e => by have := own_block hO b e.symm; omega)
/-- The two slices lie in different blocks. -/
def Dis (A A' : Option Addr) : Prop := ∀ a a', A = some a → A' = some a' → a.block ≠ a'.block
theorem Dis.symm {A A' : Option Addr} (h : Dis A A') : Dis A' A := fun a a' h1 h2 e => h a' a h2 h1 e.symm
theorem Dis.none_l {A : Option Addr} : Dis none A := fun _ _ h => by cases h
theorem Dis.none_r {A : Option Addr} : Dis A none := fun _ _ _ h => by cases h
theorem Own.lt {w : World} (h : Own E k T w base A c l) : ∀ a, A = some a → a.block < w.heap.size := by
  intro a ha
  rcases h.2 with ⟨h1, _⟩ | ⟨g, cap, cur, h1, hb, hg, _⟩
  · injection h1 with h1; rw [h1] at ha; cases ha
  · injection h1 with h1
    rw [ha] at h1
    injection h1 with h1
    subst h1
    rcases Nat.lt_or_ge g w.heap.size with hlt | hge
    · exact hlt
    · rw [Array.getElem?_eq_none hge] at hg; cases hg
/-- What an append to A leaves alone. -/
def But (A : Option Addr) (w w' : World) : Prop := ∀ b, b < w.heap.size → (∀ a, A = some a → a.block ≠ b) → w'.heap[b]? = w.heap[b]?
theorem Own.but {w w' : World} {A2 : Option Addr} {c2 : Nat} {l2 : List α} (h : Own E k T w base A2 c2 l2) (hk : But A w w') (hd : Dis A A2) : Own E k T w' base A2 c2 l2 := by
  refine ⟨h.1, ?_⟩
  have hlt := h.lt
  rcases h.2 with h1 | ⟨g, cap, cur, h1, hb, hg, h2⟩
  · exact .inl h1
  · have e : A2 = some ⟨g, 0, none⟩ := by injection h1
    exact .inr ⟨g, cap, cur, h1, hb, (hk g (hlt _ e) fun a ha => hd a _ ha e).trans hg, h2⟩
/-- append(s, x), with what it says of other blocks. -/
theorem wpList_append_one2 (w : World) {ops : Array Oper} {rest : List Oper} {o : Oper} {a : Act} {Q : Exit → Act → World → Prop} (hgd : o.guard = none) (s x : Operand) (t : TypeId)
    (ho : o.op = .call { callee := .builtin .append, args := #[s, x], argTypes := #[t, t] })
    (i : TypeInfo) (z : Value) (bytes : Nat) (ht : P.underlying t = some (.slice T)) (hi : P.info? T = some i) (hz : i.zero = some z) (hsize : i.size = k) (hby : i.bytes = bytes) (hzs : z.cells.size = k) (hk : 0 < k)
    (hE : ∀ x, (E x).length = k) (h1 : ∀ x, ∀ u ∈ E x, u.oneCell' = true) (y : α) (B : Nat)
    (hO : Own E k T w base A c l) (hs : a.eval s = .slice A l.length c) (hx : a.eval x = .slice (some ⟨B, 0, none⟩) 1 1) (hB : ∀ j u, (E y)[j]? = some u → w.cell? ⟨B, j, none⟩ = some u)
    (h63 : l.length + 1 ≤ maxLen) (hbytes : (l.length + 1) * bytes ≤ 140737488355328) (hbase : base ≤ w.heap.size)
    (h : ∀ A' c' w' L, Hid (L = l ++ [y]) → Own E k T w' base A' c' L → Below base w w' → But A w w' → (∀ A2, Dis A A2 → (∀ a, A2 = some a → a.block < w.heap.size) → Dis A' A2) → wpList P ops Q rest (a.put o.dst (.slice A' L.length c')) w') : wpList P ops Q (o :: rest) a w := by
  replace h := fun A' c' w' => h A' c' w' (l ++ [y]) rfl
  refine wpList_append_lies w hgd s x t ho base T i z k bytes ht hi hz hsize hby hzs hk _ l.length _ hs hO ⟨B, 0, none⟩ 1 1 (E y) hx (by rw [hE, Nat.one_mul]) ?_ (h1 y) (by omega) h63 hbytes hbase _ rfl ?_
  · intro j u hu
    rw [Addr.add_lit, Nat.zero_add]
    exact hB j u hu
  · intro g cap w' hown hg hat _
    have e1 : (l ++ [y]).length = l.length + 1 := by simp
    have := h (some ⟨g, 0, none⟩) cap w' (by unfold Own; rw [e1, List.flatMap_append]; simpa using hown) ⟨hg.os, hg.tape, hg.output, hg.size, fun b hb => ?_⟩ ?_ ?_
    · rw [e1] at this
      exact this
    · exact hg.block b (by omega) (fun e => by have := own_block hO b e.symm; omega)
    · intro b hb hne
      refine hg.block b hb (fun e => ?_)
      cases hA : A with
      | none => rw [hA] at e; cases e
      | some a => rw [hA] at e; simp [Value.ownBlock] at e; exact hne a hA e.symm
    · intro A2 hd hlt a' a2 ha' ha2
      injection ha' with ha'
      subst ha'
      rcases hat with hat | hat
      · cases hA : A with
        | none => rw [hA] at hat; cases hat
        | some a =>
          rw [hA] at hat
          simp [Value.ownBlock] at hat
          have := hd a a2 hA ha2
          rw [hat] at this
          exact this
      · have := hlt a2 ha2
        show g ≠ a2.block
        omega
end
end Go.Proofs.YtjmjilkpckbpeaaGreatDoor
namespace Go.Proofs.YtjmjilkpckbpeaaGreatDoor
open Go.RowKit

section
variable {P : Program} {md : Region.Mode} {ops : Array Oper} {Q : Exit → Act → World → Prop} {S : World → Prop}
theorem wpAnyH_takeL {i : Nat} {oi : Oper} {v : Value} {fuel : Nat} {listed : Array Bool} {a : Act} {w : World} (hi : ops.toList[i]? = some oi)
    (hs : Region.noSelect ops = true) (hf : Region.free md ops listed i = true) (hr : (Region.ready md ops listed).contains i = true)
    (hQ : ∀ c a w, Q (.panic c) (a.put oi.dst v) w → Q (.panic c) a w) (hy : YieldsIf P ops S oi v a) (hS : S w)
    (h : wpAnyH P md ops Q S fuel (listed.setIfInBounds i true) (a.put oi.dst v) w) : wpAnyH P md ops Q S (fuel + 1) listed a w :=
  wpAnyH_take (by rw [← Array.getElem?_toList]; exact hi) hs hf hr hQ hy hS h
theorem AllReadyH.consL {fuel : Nat} {listed : Array Bool} {a : Act} {w : World} {i : Nat} {o : Oper} {rs : List Nat} (ho : ops.toList[i]? = some o)
    (h : ∀ K' : Act → World → Prop, Shut (∀ a w, S w → (S w → wpAnyH P md ops Q S fuel (listed.setIfInBounds i true) a w) → K' a w) → if Region.wanted o (yielded ops a.tmps) = true then Oper.wp P o a w K' Q else K' (a.put o.dst undef) w)
    (hs : AllReadyH P md ops Q S fuel listed a w rs) : AllReadyH P md ops Q S fuel listed a w (i :: rs) :=
  AllReadyH.cons (by rw [← Array.getElem?_toList]; exact ho) h hs
theorem wpAnyH_inv {m : Nat} {I : Nat → Array Bool → Act → World → Prop}
    (hstep : ∀ n listed a w, I (n + 1) listed a w → (Region.ready md ops listed).isEmpty = false ∧ ∀ i o, ops.toList[i]? = some o → i ∈ Region.ready md ops listed → ∀ K : Act → World → Prop, Shut (∀ a' w', S w' → I n (listed.setIfInBounds i true) a' w' → K a' w') → if Region.wanted o (yielded ops a.tmps) = true then Oper.wp P o a w K Q else K (a.put o.dst undef) w)
    (h0 : ∀ listed a w, I 0 listed a w → wpAnyH P md ops Q S m listed a w) : ∀ n listed a w, I n listed a w → wpAnyH P md ops Q S (m + n) listed a w
  | 0, listed, a, w, h => h0 listed a w h
  | n + 1, listed, a, w, h => by
    obtain ⟨h1, h2⟩ := hstep n listed a w h
    show (Region.ready md ops listed = [] → Q .normal a w) ∧ ∀ i ∈ Region.ready md ops listed, wpOp P ops Q i (fun a' w' => S w' ∧ wpAnyH P md ops Q S (m + n) (listed.setIfInBounds i true) a' w') a w
    refine ⟨fun e => (by rw [e] at h1; cases h1), fun i hi => ?_⟩
    obtain ⟨_, o, ho, _⟩ := mem_ready.1 hi
    exact wpOp_step ho (fun K hK => h2 i o (by rw [Array.getElem?_toList]; exact ho) hi K (fun a' w' hS hI => hK a' w' ⟨hS, wpAnyH_inv hstep h0 n _ a' w' hI⟩))
end

section
variable {P : Program} {α : Type} {E : α → List Value} {k : Nat} {T : TypeId} {base : Nat} {A A2 : Option Addr} {c c2 lo up : Nat} {l l2 : List α}
/-- append(s, l2...) at one operation: s a slice of the call's own, l2 any; with what it says of other blocks. -/
theorem wp_append_all (w : World) {o : Oper} {a : Act} {K : Act → World → Prop} {Q : Exit → Act → World → Prop} (s x : Operand) (t : TypeId)
    (ho : o.op = .call { callee := .builtin .append, args := #[s, x], argTypes := #[t, t] })
    (i : TypeInfo) (z : Value) (bytes : Nat) (ht : P.underlying t = some (.slice T)) (hi : P.info? T = some i) (hz : i.zero = some z) (hsize : i.size = k) (hby : i.bytes = bytes) (hzs : z.cells.size = k) (hk : 0 < k)
    (hE : ∀ x, (E x).length = k) (h1 : ∀ x, ∀ u ∈ E x, u.oneCell' = true)
    (hO : Own E k T w base A c l) (hS : Sl E k w lo up A2 l2) (hs : a.eval s = .slice A l.length c) (hx : a.eval x = .slice A2 l2.length c2)
    (h63 : l.length + l2.length ≤ maxLen) (hbytes : (l.length + l2.length) * bytes ≤ 140737488355328) (hbase : base ≤ w.heap.size)
    (h : ∀ A' c' w', Own E k T w' base A' c' (l ++ l2) → Below base w w' → But A w w' → (∀ A2, Dis A A2 → (∀ a, A2 = some a → a.block < w.heap.size) → Dis A' A2) → K (a.put o.dst (.slice A' (l ++ l2).length c')) w') : o.wp P a w K Q := by
  cases hA : A2 with
  | none =>
    have hl2 : l2 = [] := by
      by_cases hn : l2 = []
      · exact hn
      · obtain ⟨b, off, e, _⟩ := hS hn
        rw [hA] at e; cases e
    subst hl2 hA
    have hrun := run_append_none_any (P := P) w base t o.type T i k ht hi _ _ _ c2 hO
    unfold Oper.wp
    simp [execOp, ho, resolve, invoke, builtin, hs, hx, hrun, Result.andThen]
    have := h A c w (by simpa using hO) (Below.refl _ _) (fun _ _ _ => rfl) (fun _ h _ => h)
    simp at this
    exact this
  | some ad =>
    subst hA
    obtain ⟨v', w', hrun, hown, hg, _, hat⟩ := run_append_own_at (P := P) w base t o.type T i z k bytes ht hi hz hsize hby hzs hk _ l.length _ hO ad l2.length c2 (l2.flatMap E) (flat_len hE l2) (by
      intro j u hu
      have hn : l2 ≠ [] := by rintro rfl; simp at hu
      obtain ⟨b, off, e, _, _, _, f⟩ := hS hn
      injection e with e
      subst e
      have hj : j < l2.length * k := by rw [← flat_len hE l2]; exact (List.getElem?_eq_some_iff.1 hu).1
      have hq : j / k < l2.length := Nat.div_lt_of_lt_mul (by rw [Nat.mul_comm]; exact hj)
      have hx' : l2[j / k]? = some l2[j / k] := List.getElem?_eq_getElem hq
      have hr : j % k < (E l2[j / k]).length := by rw [hE]; exact Nat.mod_lt _ hk
      have hv := List.getElem?_eq_getElem hr
      have hcell := (f _ _ hx' _ _ hv).1
      have hu2 := flat_at hE l2 _ _ hx' _ _ hv
      have hjj : j / k * k + j % k = j := by rw [Nat.mul_comm]; exact Nat.div_add_mod j k
      rw [hjj, hu] at hu2
      rw [Addr.add_lit, ← hjj, ← Nat.add_assoc, hcell]
      exact hu2.symm) (by
      intro u hu
      obtain ⟨y, _, hy⟩ := List.mem_flatMap.1 hu
      exact h1 y u hy) h63 hbytes hbase
    obtain ⟨A', c', rfl⟩ := own_form hown
    have e1 : (l ++ l2).length = l.length + l2.length := List.length_append
    unfold Oper.wp
    simp only [execOp, ho, resolve, invoke, builtin, Sem.run_bind, Sem.run_pure, Result.andThen_ok, List.map_toArray, List.map_cons, List.map_nil, hs, hx, hrun]
    have := h A' c' w' (by unfold Own; rw [e1, List.flatMap_append]; exact hown) ⟨hg.os, hg.tape, hg.output, hg.size, fun b hb => hg.block b (by omega) (fun e => by have := own_block hO b e.symm; omega)⟩ ?_ ?_
    · rw [e1] at this
      exact this
    · intro b hb hne
      refine hg.block b hb (fun e => ?_)
      cases hA : A with
      | none => rw [hA] at e; cases e
      | some a => rw [hA] at e; simp [Value.ownBlock] at e; exact hne a hA e.symm
    · intro A2 hd hlt a' a2 ha' ha2
      subst ha'
      rcases hat with hat | hat
      · cases hA : A with
        | none => rw [hA] at hat; cases hat
        | some a =>
          rw [hA] at hat
          simp [Value.ownBlock] at hat
          have := hd a a2 hA ha2
          rw [← hat] at this
          exact this
      · simp [Value.ownBlock] at hat
        have := hlt a2 ha2
        show a'.block ≠ a2.block
        omega
end
end Go.Proofs.YtjmjilkpckbpeaaGreatDoor
namespace Go.Proofs.YtjmjilkpckbpeaaGreatDoor
open Go.RowKit

/-- The call returned a slice that reads R, in new blocks. -/
def RS1 {α : Type} (E : α → List Value) (k : Nat) (w : World) (R : List α) (e : Ending) (w' : World) : Prop :=
  ∃ A c, e = .returned (.slice A R.length c) ∧ Sl E k w' w.heap.size w'.heap.size A R ∧ R.length ≤ c ∧ Below w.heap.size w w'
/-- .. and a bool behind it. -/
def RS2 {α : Type} (E : α → List Value) (k : Nat) (w : World) (R : List α) (B : Bool) (e : Ending) (w' : World) : Prop :=
  ∃ A c, e = .returned (.tuple #[.slice A R.length c, .bool B]) ∧ Sl E k w' w.heap.size w'.heap.size A R ∧ R.length ≤ c ∧ Below w.heap.size w w'
/-- The call returned a slice that reads R, in a row of its own. -/
def RO1 {α : Type} (E : α → List Value) (k : Nat) (T : TypeId) (w : World) (R : List α) (e : Ending) (w' : World) : Prop :=
  ∃ A c, e = .returned (.slice A R.length c) ∧ Own E k T w' w.heap.size A c R ∧ Below w.heap.size w w'
section
variable {α : Type} {E : α → List Value} {k : Nat} {w w' : World} {R : List α} {B : Bool} {T : TypeId} {A : Option Addr} {c : Nat}
theorem RS2.nil_ (h1 : R = []) (h2 : B = false) (hb : Below w.heap.size w w') : RS2 E k w R B (.returned (.tuple #[.slice none 0 0, .bool false])) w' := by
  subst h1 h2
  exact ⟨none, 0, rfl, Sl.nil_, Nat.le_refl _, hb⟩
theorem RS1.nil_ (h1 : R = []) (hb : Below w.heap.size w w') : RS1 E k w R (.returned (.slice none 0 0)) w' := by
  subst h1
  exact ⟨none, 0, rfl, Sl.nil_, Nat.le_refl _, hb⟩
theorem RS1.own {l : List α} {n : Nat} (h1 : R = l) (hn : n = l.length) (hE : ∀ x, (E x).length = k) (hO : Own E k T w' w.heap.size A c l) (hb : Below w.heap.size w w') : RS1 E k w R (.returned (.slice A n c)) w' := by
  subst h1 hn
  exact ⟨A, c, rfl, hO.sl hE, hO.cap, hb⟩
theorem RS2.own {l : List α} {n : Nat} {b : Bool} (h1 : R = l) (hn : n = l.length) (h2 : B = b) (hE : ∀ x, (E x).length = k) (hO : Own E k T w' w.heap.size A c l) (hb : Below w.heap.size w w') : RS2 E k w R B (.returned (.tuple #[.slice A n c, .bool b])) w' := by
  subst h1 hn h2
  exact ⟨A, c, rfl, hO.sl hE, hO.cap, hb⟩
theorem RS2.of {l : List α} {n lo : Nat} {b : Bool} (h1 : R = l) (hn : n = l.length) (h2 : B = b) (hS : Sl E k w' lo w'.heap.size A l) (hlo : w.heap.size ≤ lo) (hc : l.length ≤ c) (hb : Below w.heap.size w w') : RS2 E k w R B (.returned (.tuple #[.slice A n c, .bool b])) w' := by
  subst h1 hn h2
  exact ⟨A, c, rfl, hS.mono hlo (Nat.le_refl _) (Nat.le_refl _), hc, hb⟩
theorem RS1.of {l : List α} {n lo : Nat} (h1 : R = l) (hn : n = l.length) (hS : Sl E k w' lo w'.heap.size A l) (hlo : w.heap.size ≤ lo) (hc : l.length ≤ c) (hb : Below w.heap.size w w') : RS1 E k w R (.returned (.slice A n c)) w' := by
  subst h1 hn
  exact ⟨A, c, rfl, hS.mono hlo (Nat.le_refl _) (Nat.le_refl _), hc, hb⟩
theorem Sl.none_nil {lo hi : Nat} (h : Sl E k w lo hi none R) : R = [] := by
  by_cases hn : R = []
  · exact hn
  · obtain ⟨b, off, e, _⟩ := h hn; cases e
end
theorem enters {P : Program} {g : FuncId} {fn : Func} (h : P.funcs[g]? = some fn) (hn : (fn.name == "runtime.NumGoroutine") = false) (hb : fn.body.isNone = false) : ∀ args w, (callFunc g args).run P w = .ok (.enter g args) w := by
  intro args w
  have hn' : ¬ fn.name = "runtime.NumGoroutine" := by simpa using hn
  have hb' : ¬ fn.body = none := by intro e; rw [e] at hb; cases hb
  simp [callFunc, h, hn', hb']
theorem Fr.alloc {lo hi : Nat} {w W : World} (h : Fr lo hi w W) (o : Obj) : Fr lo hi w (W.alloc o) := h.on ((Below.refl _ _).alloc (Nat.le_refl _) o)
theorem Fr.setCells {lo hi b : Nat} (hb : lo ≤ b ∧ b < hi) : ∀ (vs : List Value) (o : Nat) {w W : World}, Fr lo hi w W → Fr lo hi w (W.setCells b o vs)
  | [], _, _, _, h => h
  | v :: vs, o, _, _, h => Fr.setCells hb vs (o + 1) (h.setCell (p := ⟨b, o, none⟩) hb v)
def Enters (g : FuncId) : Prop := ∀ args w, (callFunc g args).run Tryz.prog w = .ok (.enter g args) w
def idxG {α : Type} (p : α → Bool) : List α → Nat → Int
  | [], _ => -1
  | x :: l, i => if p x = true then i else idxG p l (i + 1)
theorem idxG_step {α : Type} {p : α → Bool} {l : List α} {k : Nat} {x : α} (hx : l[k]? = some x) : idxG p (l.drop k) k = if p x = true then (k : Int) else idxG p (l.drop (k + 1)) (k + 1) := by
  obtain ⟨h1, rfl⟩ := List.getElem?_eq_some_iff.1 hx
  rw [List.drop_eq_getElem_cons h1]
  rfl
theorem idxG_spec {α : Type} (p : α → Bool) : ∀ (l : List α) (i : Nat), (idxG p l i = -1 ∧ ∀ x ∈ l, p x = false) ∨ ∃ k x, l[k]? = some x ∧ idxG p l i = ((i + k : Nat) : Int) ∧ p x = true ∧ ∀ y ∈ l.take k, p y = false
  | [], _ => .inl ⟨rfl, by simp⟩
  | y :: r, i => by
    by_cases h : p y = true
    · exact .inr ⟨0, y, rfl, by simp [idxG, h], h, by simp⟩
    · have h' : p y = false := by simpa using h
      rcases idxG_spec p r (i + 1) with ⟨e, ha⟩ | ⟨k, x, hk, e, ht, ha⟩
      · refine .inl ⟨by rw [idxG, if_neg h, e], fun x hx => ?_⟩
        rcases List.mem_cons.1 hx with rfl | hx
        · exact h'
        · exact ha x hx
      · refine .inr ⟨k + 1, x, by simpa using hk, by rw [idxG, if_neg h, e]; omega, ht, fun x hx => ?_⟩
        rw [List.take_succ_cons] at hx
        rcases List.mem_cons.1 hx with rfl | hx
        · exact h'
        · exact ha x hx
theorem idxG_any {α : Type} (p : α → Bool) (l : List α) : decide (0 ≤ idxG p l 0) = l.any p := by
  rcases idxG_spec p l 0 with ⟨e, ha⟩ | ⟨k, x, hk, e, ht, _⟩
  · rw [e, Eq.comm, show decide ((0 : Int) ≤ -1) = false from rfl, List.any_eq_false]
    intro x hx
    simp [ha x hx]
  · rw [e, Eq.comm, show decide ((0 : Int) ≤ ((0 + k : Nat) : Int)) = true by simp, List.any_eq_true]
    exact ⟨x, List.mem_of_getElem? hk, ht⟩
theorem idxG_ge {α : Type} (p : α → Bool) : ∀ (l : List α) (i : Nat), -1 ≤ idxG p l i ∧ idxG p l i ≤ i + l.length
  | [], i => by simp [idxG]
  | x :: l, i => by
    have := idxG_ge p l (i + 1)
    rw [idxG]
    split
    · simp only [List.length_cons]; omega
    · simp only [List.length_cons]; omega
theorem idxG_lt {α : Type} (p : α → Bool) (l : List α) : idxG p l 0 < l.length ∨ idxG p l 0 = -1 := by
  rcases idxG_spec p l 0 with ⟨e, _⟩ | ⟨k, x, hk, e, _⟩
  · exact .inr e
  · have := (List.getElem?_eq_some_iff.1 hk).1
    left; omega
theorem new_cells_at {α : Type} {E : α → List Value} (W : World) (T : TypeId) (y : α) (cs : Array Value) (n : Nat) (hn : n = W.heap.size) (h : cs = (E y).toArray) : ∀ j u, (E y)[j]? = some u → (W.alloc (.cells cs T)).cell? ⟨n, j, none⟩ = some u := by
  subst hn
  exact new_cells W T y cs h
theorem toList_inj {a b : ByteArray} (h : a.toList = b.toList) : a = b := by
  apply ByteArray.ext
  apply Array.ext'
  rw [Go.ByteArray.toList_eq, Go.ByteArray.toList_eq] at h
  exact h
end Go.Proofs.YtjmjilkpckbpeaaGreatDoor
namespace Go.Proofs.YtjmjilkpckbpeaaGreatDoor
open Go.RowKit

/-- string([]byte{x}). -/
theorem one_byte {P : Program} (src dst e : TypeId) (hs : P.underlying src = some (.slice e)) (he : P.underlying e = some (.int .u8)) (hd : P.underlying dst = some .string) (w : World) (x : Int) (h0 : 0 ≤ x) (h1 : x < 256) :
    (convert src dst (.slice (some ⟨w.heap.size, 0, none⟩) 1 1)).run P (w.alloc (.cells #[.int .u8 x] e)) = .ok (.string ⟨#[x.toNat.toUInt8]⟩) (w.alloc (.cells #[.int .u8 x] e)) := by
  have := run_convert_bytes_back (P := P) (w.alloc (.cells #[.int .u8 x] e)) src dst e ⟨w.heap.size, 0, none⟩ 1 [x.toNat.toUInt8] hs he hd (fun j hj => by
    simp at hj
    subst hj
    rw [show (⟨w.heap.size, 0, none⟩ : Addr).add 0 = ⟨w.heap.size, 0, none⟩ from rfl]
    simp
    omega)
  simpa using this

theorem app_bytes (a b : List UInt8) : (⟨a.toArray⟩ : ByteArray) ++ ⟨b.toArray⟩ = ⟨(a ++ b).toArray⟩ := by
  apply ByteArray.ext
  simp

def mtG : Nat → Int → List UInt8 → List UInt8
  | 0, _, o => o
  | f + 1, k, o => if 0 < k then mtG f (k / 10) ((48 + k % 10).toNat.toUInt8 :: o) else o
def mt (k : Int) : ByteArray := ⟨(109 :: mtG 8 k []).toArray⟩

theorem mtG_zero (f : Nat) (o : List UInt8) : mtG f 0 o = o := by cases f <;> simp [mtG]
theorem mtG_succ {f : Nat} {k : Int} (h : 0 < k) (o : List UInt8) : mtG (f + 1) k o = mtG f (k / 10) ((48 + k % 10).toNat.toUInt8 :: o) := by simp [mtG, h]

end Go.Proofs.YtjmjilkpckbpeaaGreatDoor
namespace Go.Proofs.YtjmjilkpckbpeaaGreatDoor
open Go.ChangeShapes Go.WideShapes Go.ChangeAt Go.RowKit Go.Joins Go.Deep

theorem list_of {α : Type} {Q : Nat → α → Prop} : ∀ n : Nat, (∀ i, i < n → ∃ x, Q i x) → ∃ l : List α, l.length = n ∧ ∀ i x, l[i]? = some x → Q i x
  | 0, _ => ⟨[], rfl, fun i x h => by simp at h⟩
  | n + 1, h => by
    obtain ⟨l, hl, hQ⟩ := list_of n (fun i hi => h i (by omega))
    obtain ⟨x, hx⟩ := h n (by omega)
    refine ⟨l ++ [x], by simp [hl], fun i y hy => ?_⟩
    by_cases hi : i < n
    · rw [List.getElem?_append_left (by omega)] at hy
      exact hQ i y hy
    · rw [List.getElem?_append_right (by omega)] at hy
      have hi0 : i = n := by
        have := (List.getElem?_eq_some_iff.1 hy).1
        simp at this
        omega
      subst hi0
      simp [hl] at hy
      subst hy
      exact hx

theorem plain_addr {W : World} {a : Addr} {v : Value} (h : W.cell? a = some v) : a = ⟨a.block, a.off, none⟩ := by
  obtain ⟨b, o, s⟩ := a
  have := World.cell?_spot h
  simp at this
  subst this
  rfl

section
variable {H : Type} {enc : TypeId × Value → H} {P : Program} {W : World}
theorem open_sl {α : Type} {E : α → List Value} {k : Nat} (Good : α → Prop) {t e : TypeId} {v : Value} {d : DataW H} {p : List MemPlace} {r : Reach} {b0 : Nat} (ht : P.underlying t = some (.slice e)) (hC : P.cellsOf e = k) (hk : 0 < k) (hE : ∀ x : α, (E x).length = k)
    (rd : ∀ (n : Nat) (cs' : List Value) (y : DataW H × List MemPlace), cs'.length = k → DataW.trod enc P W 0 (fun _ => true) true n e cs' = some y → ∃ x, E x = cs' ∧ Good x)
    (hv : Value.okWide P W r b0 t v) (h : DataW.Trod enc P W 0 (fun _ => true) true t v d p) (hlt : ∀ x ∈ p, x.block < W.heap.size) (hnf : W.noneFrozen p) :
    ∃ (A : Option Addr) (c : Nat) (l : List α), v = .slice A l.length c ∧ l.length ≤ maxLen ∧ (∀ x ∈ l, Good x) ∧ Sl E k W 0 W.heap.size A l := by
  obtain ⟨A, len, cap, rfl⟩ := okWide_slice ht hv
  obtain ⟨fuel, hf⟩ := h
  simp only [Value.cells] at hf
  rcases open_slice ht hf with ⟨h0, _⟩ | ⟨a, len', cap', m, n, D, Pl, hcs, _, hl, hm, hmm, hx, hi⟩
  · simp at h0
    obtain ⟨rfl, rfl, rfl⟩ := h0
    exact ⟨none, 0, [], rfl, Nat.zero_le _, by simp, Sl.nil_⟩
  · simp at hcs
    obtain ⟨rfl, rfl, rfl⟩ := hcs
    simp only [if_true] at hmm
    subst hmm
    rw [hC] at hx hi
    simp only [Prod.mk.injEq] at hx
    obtain ⟨l, hll, hQ⟩ := list_of (Q := fun i (x : α) => Good x ∧ ∀ j u, (E x)[j]? = some u → W.cell? ((a.add (i * k)).add j) = some u) len (fun i hi' => by
      obtain ⟨cs', hc, ht'⟩ := hi i (by omega)
      obtain ⟨_, hcl, hat⟩ := World.cells?_some hc
      obtain ⟨x, hx1, hx2⟩ := rd n cs' _ hcl ht'
      refine ⟨x, hx2, fun j u hj => ?_⟩
      rw [hx1] at hj
      rw [hat j (by rw [← hcl]; exact (List.getElem?_eq_some_iff.1 hj).1)]
      exact hj)
    subst hll
    refine ⟨some a, _, l, rfl, by omega, fun x hx => ?_, fun hn => ?_⟩
    · obtain ⟨i, hi⟩ := List.mem_iff_getElem?.1 hx
      exact (hQ i x hi).1
    · have hp : ∀ q, q < m * k → MemPlace.cell a.block (a.off + q) ∈ p := fun q hq => by
        rw [hx.2]
        exact List.mem_append_left _ (MemPlace.mem_row.2 ⟨q, hq, rfl⟩)
      have hpos : 0 < l.length := by
        cases l with
        | nil => exact absurd rfl hn
        | cons _ _ => simp
      have hk0 : 0 < m * k := Nat.mul_pos (by omega) hk
      -- the first cell is there, so the address is a plain one
      have hplain : a = ⟨a.block, a.off, none⟩ := by
        obtain ⟨cs', hc, _⟩ := hi 0 (by omega)
        obtain ⟨_, hcl, hat⟩ := World.cells?_some hc
        have h1 := hat 0 hk
        rw [List.getElem?_eq_getElem (by omega)] at h1
        have e0 : (a.add (0 * k)).add 0 = a := by simp [Addr.add]
        rw [e0] at h1
        exact plain_addr h1
      refine ⟨a.block, a.off, by rw [← hplain], Nat.zero_le _, hlt _ (hp 0 hk0), Nat.le_refl _, fun i x hx j u hu => ?_⟩
      have hil : i < l.length := (List.getElem?_eq_some_iff.1 hx).1
      have hcell := (hQ i x hx).2 j u hu
      have hadd : (a.add (i * k)).add j = ⟨a.block, a.off + i * k + j, none⟩ := by
        rw [hplain]
        unfold Addr.add
        by_cases h1 : i * k = 0 <;> by_cases h2 : j = 0 <;> simp [h1, h2, Nat.add_assoc]
      rw [hadd] at hcell
      refine ⟨hcell, ?_⟩
      have hjk : j < k := by have := (List.getElem?_eq_some_iff.1 hu).1; rw [hE] at this; exact this
      have := hnf a.block (a.off + (i * k + j)) (hp _ (by
        calc i * k + j < i * k + k := by omega
          _ = (i + 1) * k := by rw [Nat.add_mul, Nat.one_mul]
          _ ≤ m * k := Nat.mul_le_mul_right _ (by omega)))
      rw [← Nat.add_assoc] at this
      exact this
end

end Go.Proofs.YtjmjilkpckbpeaaGreatDoor
namespace Go.Proofs.YtjmjilkpckbpeaaGreatDoor
open Go.ChangeShapes Go.WideShapes Go.ChangeAt Go.RowKit Go.Joins Go.Deep

section
variable {H : Type} {enc : TypeId × Value → H} {P : Program} {W : World}
theorem open_slc {α : Type} {E : α → List Value} {k : Nat} (Good : α → Prop) {t e : TypeId} {v : Value} {d : DataW H} {p : List MemPlace} (ht : P.underlying t = some (.slice e)) (hC : P.cellsOf e = k) (hk : 0 < k) (hE : ∀ x : α, (E x).length = k)
    (rd : ∀ (n : Nat) (cs' : List Value) (y : DataW H × List MemPlace), cs'.length = k → DataW.trod enc P W 0 (fun _ => true) true n e cs' = some y → ∃ x, E x = cs' ∧ Good x)
    {fuel : Nat} (hf : DataW.trod enc P W 0 (fun _ => true) true fuel t [v] = some (d, p)) (hlt : ∀ x ∈ p, x.block < W.heap.size) (hnf : W.noneFrozen p) :
    ∃ (A : Option Addr) (c : Nat) (l : List α), v = .slice A l.length c ∧ l.length ≤ maxLen ∧ (∀ x ∈ l, Good x) ∧ Sl E k W 0 W.heap.size A l := by
  rcases open_slice ht hf with ⟨h0, _⟩ | ⟨a, len', cap', m, n, D, Pl, hcs, _, hl, hm, hmm, hx, hi⟩
  · obtain rfl : v = .slice none 0 0 := by simpa using h0
    exact ⟨none, 0, [], rfl, Nat.zero_le _, by simp, Sl.nil_⟩
  · obtain rfl : v = .slice (some a) len' cap' := by simpa using hcs
    simp only [if_true] at hmm
    subst hmm
    rw [hC] at hx hi
    simp only [Prod.mk.injEq] at hx
    obtain ⟨l, hll, hQ⟩ := list_of (Q := fun i (x : α) => Good x ∧ ∀ j u, (E x)[j]? = some u → W.cell? ((a.add (i * k)).add j) = some u) len' (fun i hi' => by
      obtain ⟨cs', hc, ht'⟩ := hi i (by omega)
      obtain ⟨_, hcl, hat⟩ := World.cells?_some hc
      obtain ⟨x, hx1, hx2⟩ := rd n cs' _ hcl ht'
      refine ⟨x, hx2, fun j u hj => ?_⟩
      rw [hx1] at hj
      rw [hat j (by rw [← hcl]; exact (List.getElem?_eq_some_iff.1 hj).1)]
      exact hj)
    subst hll
    refine ⟨some a, _, l, rfl, by omega, fun x hx => ?_, fun hn => ?_⟩
    · obtain ⟨i, hi⟩ := List.mem_iff_getElem?.1 hx
      exact (hQ i x hi).1
    · have hp : ∀ q, q < m * k → MemPlace.cell a.block (a.off + q) ∈ p := fun q hq => by
        rw [hx.2]
        exact List.mem_append_left _ (MemPlace.mem_row.2 ⟨q, hq, rfl⟩)
      have hpos : 0 < l.length := by
        cases l with
        | nil => exact absurd rfl hn
        | cons _ _ => simp
      have hk0 : 0 < m * k := Nat.mul_pos (by omega) hk
      -- the first cell is there, so the address is a plain one
      have hplain : a = ⟨a.block, a.off, none⟩ := by
        obtain ⟨cs', hc, _⟩ := hi 0 (by omega)
        obtain ⟨_, hcl, hat⟩ := World.cells?_some hc
        have h1 := hat 0 hk
        rw [List.getElem?_eq_getElem (by omega)] at h1
        have e0 : (a.add (0 * k)).add 0 = a := by simp [Addr.add]
        rw [e0] at h1
        exact plain_addr h1
      refine ⟨a.block, a.off, by rw [← hplain], Nat.zero_le _, hlt _ (hp 0 hk0), Nat.le_refl _, fun i x hx j u hu => ?_⟩
      have hil : i < l.length := (List.getElem?_eq_some_iff.1 hx).1
      have hcell := (hQ i x hx).2 j u hu
      have hadd : (a.add (i * k)).add j = ⟨a.block, a.off + i * k + j, none⟩ := by
        rw [hplain]
        unfold Addr.add
        by_cases h1 : i * k = 0 <;> by_cases h2 : j = 0 <;> simp [h1, h2, Nat.add_assoc]
      rw [hadd] at hcell
      refine ⟨hcell, ?_⟩
      have hjk : j < k := by have := (List.getElem?_eq_some_iff.1 hu).1; rw [hE] at this; exact this
      have := hnf a.block (a.off + (i * k + j)) (hp _ (by
        calc i * k + j < i * k + k := by omega
          _ = (i + 1) * k := by rw [Nat.add_mul, Nat.one_mul]
          _ ≤ m * k := Nat.mul_le_mul_right _ (by omega)))
      rw [← Nat.add_assoc] at this
      exact this
end

end Go.Proofs.YtjmjilkpckbpeaaGreatDoor
namespace Go.Proofs.YtjmjilkpckbpeaaGreatDoor
open Go.RowKit

def Strs.cells (x : ByteArray) : List Value := [.string (x)]
theorem Strs.len (x : ByteArray) : (Strs.cells x).length = 1 := rfl
abbrev Strs (w : World) (lo hi : Nat) (A : Option Addr) (l : List ByteArray) : Prop := Sl Strs.cells 1 w lo hi A l
theorem Strs.one (x : ByteArray) : ∀ u ∈ Strs.cells x, u.oneCell' = true := by intro u hu; simp [Strs.cells] at hu; subst hu; rfl
theorem Strs.info : (Tryz.prog.info? 9).map (fun i => (i.zero, i.size, i.bytes)) = some (some (.string ⟨#[]⟩), 1, 16) := by kernel_rfl
theorem Strs.at1 {w : World} {lo hi : Nat} {A : Option Addr} {l : List ByteArray} (h : Strs w lo hi A l) {i : Nat} {x : ByteArray} (hx : l[i]? = some x) : ∃ b off, A = some ⟨b, off, none⟩ ∧ lo ≤ b ∧ b < hi ∧ hi ≤ w.heap.size ∧ w.cell? ⟨b, off + i, none⟩ = some (.string (x)) ∧ w.frozen? ⟨b, off + i, none⟩ = false := by
  obtain ⟨b, off, e, h1, h2, h3, hf⟩ := h.at_ hx
  have := hf 0 _ rfl
  rw [Nat.mul_one] at this
  exact ⟨b, off, e, h1, h2, h3, this.1, this.2⟩
def Strs.mk1 (k : Int) : ByteArray := mt (k)
def Strs.mkL (k : Int) : Nat → List ByteArray
  | 0 => []
  | n + 1 => Strs.mkL k n ++ [Strs.mk1 (k + n)]
theorem Strs.mkL_len (k : Int) : ∀ n, (Strs.mkL k n).length = n
  | 0 => rfl
  | n + 1 => by simp [Strs.mkL, Strs.mkL_len k n]
theorem Strs.mkL_at {k : Int} : ∀ {n q : Nat}, q < n → (Strs.mkL k n)[q]? = some (Strs.mk1 (k + q))
  | 0, q, h => by omega
  | n + 1, q, h => by
    rw [Strs.mkL]
    by_cases hq : q < n
    · rw [List.getElem?_append_left (by rw [Strs.mkL_len]; exact hq)]; exact Strs.mkL_at hq
    · obtain rfl : q = n := by omega
      rw [List.getElem?_append_right (by rw [Strs.mkL_len]; omega), Strs.mkL_len]; simp
theorem Strs.mkL_set {k : Int} {l : List ByteArray} {q : Nat} {x : ByteArray} (hx : l[q]? = some x) : (Strs.mkL k q ++ l.drop q)[q]? = some x ∧ (Strs.mkL k q ++ l.drop q).set q (Strs.mk1 (k + q)) = Strs.mkL k (q + 1) ++ l.drop (q + 1) := by
  obtain ⟨hq, rfl⟩ := List.getElem?_eq_some_iff.1 hx
  constructor
  · rw [List.getElem?_append_right (by rw [Strs.mkL_len]; omega), Strs.mkL_len]; simp [hq]
  · rw [List.set_append_right _ _ (by rw [Strs.mkL_len]; omega), Strs.mkL_len, Nat.sub_self, List.drop_eq_getElem_cons hq, List.set_cons_zero, Strs.mkL, List.append_assoc]; rfl

end Go.Proofs.YtjmjilkpckbpeaaGreatDoor
namespace Go.Proofs.YtjmjilkpckbpeaaGreatDoor
open Go.RowKit

def Ints.cells (x : Int) : List Value := [.int .i64 (x)]
theorem Ints.len (x : Int) : (Ints.cells x).length = 1 := rfl
abbrev Ints (w : World) (lo hi : Nat) (A : Option Addr) (l : List Int) : Prop := Sl Ints.cells 1 w lo hi A l
theorem Ints.one (x : Int) : ∀ u ∈ Ints.cells x, u.oneCell' = true := by intro u hu; simp [Ints.cells] at hu; subst hu; rfl
theorem Ints.info : (Tryz.prog.info? 3).map (fun i => (i.zero, i.size, i.bytes)) = some (some (.int .i64 0), 1, 8) := by kernel_rfl
theorem Ints.at1 {w : World} {lo hi : Nat} {A : Option Addr} {l : List Int} (h : Ints w lo hi A l) {i : Nat} {x : Int} (hx : l[i]? = some x) : ∃ b off, A = some ⟨b, off, none⟩ ∧ lo ≤ b ∧ b < hi ∧ hi ≤ w.heap.size ∧ w.cell? ⟨b, off + i, none⟩ = some (.int .i64 (x)) ∧ w.frozen? ⟨b, off + i, none⟩ = false := by
  obtain ⟨b, off, e, h1, h2, h3, hf⟩ := h.at_ hx
  have := hf 0 _ rfl
  rw [Nat.mul_one] at this
  exact ⟨b, off, e, h1, h2, h3, this.1, this.2⟩
def Ints.mk1 (k : Int) : Int := k
def Ints.mkL (k : Int) : Nat → List Int
  | 0 => []
  | n + 1 => Ints.mkL k n ++ [Ints.mk1 (k + n)]
theorem Ints.mkL_len (k : Int) : ∀ n, (Ints.mkL k n).length = n
  | 0 => rfl
  | n + 1 => by simp [Ints.mkL, Ints.mkL_len k n]
theorem Ints.mkL_at {k : Int} : ∀ {n q : Nat}, q < n → (Ints.mkL k n)[q]? = some (Ints.mk1 (k + q))
  | 0, q, h => by omega
  | n + 1, q, h => by
    rw [Ints.mkL]
    by_cases hq : q < n
    · rw [List.getElem?_append_left (by rw [Ints.mkL_len]; exact hq)]; exact Ints.mkL_at hq
    · obtain rfl : q = n := by omega
      rw [List.getElem?_append_right (by rw [Ints.mkL_len]; omega), Ints.mkL_len]; simp
theorem Ints.mkL_set {k : Int} {l : List Int} {q : Nat} {x : Int} (hx : l[q]? = some x) : (Ints.mkL k q ++ l.drop q)[q]? = some x ∧ (Ints.mkL k q ++ l.drop q).set q (Ints.mk1 (k + q)) = Ints.mkL k (q + 1) ++ l.drop (q + 1) := by
  obtain ⟨hq, rfl⟩ := List.getElem?_eq_some_iff.1 hx
  constructor
  · rw [List.getElem?_append_right (by rw [Ints.mkL_len]; omega), Ints.mkL_len]; simp [hq]
  · rw [List.set_append_right _ _ (by rw [Ints.mkL_len]; omega), Ints.mkL_len, Nat.sub_self, List.drop_eq_getElem_cons hq, List.set_cons_zero, Ints.mkL, List.append_assoc]; rfl

end Go.Proofs.YtjmjilkpckbpeaaGreatDoor
namespace Go.Proofs.YtjmjilkpckbpeaaGreatDoor
open Go.RowKit

theorem containsInts_any (A : Option Addr) (c : Nat) (l : List Int) (x : Int) (w : World) (lo hi : Nat) (hl : l.length ≤ 1048576) (hS : Ints w lo hi A l) : Calls Tryz.prog 143 #[.slice A l.length c, .int .i64 x] w (RV w (.bool (l.contains x))) := by
  cases l with
  | nil =>
    refine (Tryz.slices_Contains_int_empty A c x w).mono ?_
    rintro e w' ⟨rfl, rfl⟩
    exact RV.mk rfl (Below.refl _ _)
  | cons y r =>
    obtain ⟨b, off, rfl, _⟩ := hS (by simp)
    refine (Tryz.slices_Contains_int b off (y :: r).length c (y :: r) x w (Nat.le_refl _) (by omega) (fun j hj => ?_)).mono ?_
    · obtain ⟨_, _, e, _, _, _, h, _⟩ := Ints.at1 hS (List.getElem?_eq_getElem hj)
      cases e
      rw [h, List.getD_eq_getElem?_getD, List.getElem?_eq_getElem hj]; rfl
    · rintro e w' ⟨rfl, rfl⟩
      rw [List.take_length]
      exact RV.mk rfl (Below.refl _ _)
end Go.Proofs.YtjmjilkpckbpeaaGreatDoor
namespace Go.Proofs.YtjmjilkpckbpeaaGreatDoor
open Go.RowKit

def stOk (s : Int) : Bool := inB s 0 5
theorem isState_a (s : Int) (w : World) : Calls Tryz.prog 101 #[.int .i64 s] w (RV w (.bool (stOk s))) := by
  go_enter Tryz.func101, Tryz.ntmps101
  go_wp2_with fail
  refine (inside_any _ _ _ _).mono ?_
  rintro e w1 ⟨rfl, hb⟩
  have hB : Below w.heap.size w w1 := Below.on' (by go_grown) hb
  go_wp2
  go_ret
  exact RV.mk rfl hB
theorem apState_a (s : Int) (w : World) : Calls Tryz.prog 125 #[.int .i64 s] w (RV w (.bool (stOk s))) := by
  go_enter Tryz.func125, Tryz.ntmps125
  go_wp2_with fail
  refine (l1In_any _ _ _ _).mono ?_
  rintro e w1 ⟨rfl, hb⟩
  have hB : Below w.heap.size w w1 := Below.on' (by go_grown) hb
  go_wp2
  go_ret
  exact RV.mk rfl hB
/-- One digit. -/
def digT (n : Int) : ByteArray := ⟨#[UInt8.ofNat (48 + n.toNat)]⟩
theorem back1 (w : World) (n : Int) (h : 0 ≤ n ∧ n ≤ 9) : (convert 22 9 (.slice (some ⟨w.heap.size, 0, none⟩) 1 1)).run Tryz.prog (w.alloc (.cells #[.int .u8 (48 + n)] 5)) = .ok (.string (digT n)) (w.alloc (.cells #[.int .u8 (48 + n)] 5)) :=
  run_convert_bytes_back (P := Tryz.prog) (w.alloc (.cells #[.int .u8 (48 + n)] 5)) 22 9 5 ⟨w.heap.size, 0, none⟩ 1 [UInt8.ofNat (48 + n.toNat)] Tryz.underlying22 Tryz.underlying5 Tryz.underlying9 (fun j hj => by
    cases j with
    | zero =>
      have e : ((UInt8.ofNat (48 + n.toNat)).toNat : Int) = 48 + n := by
        rw [UInt8.toNat_ofNat']
        omega
      show _ = some (Value.int IntKind.u8 (((UInt8.ofNat (48 + n.toNat)).toNat : Nat) : Int))
      rw [e]
      show (w.alloc _).cell? ⟨w.heap.size, 0, none⟩ = _
      rw [World.cell?_alloc_at _ _ _ _ rfl]
      rfl
    | succ j => simp at hj)
theorem l1Num_1 (n : Int) (h0 : 0 ≤ n) (h9 : n ≤ 9) (w : World) : Calls Tryz.prog 139 #[.int .i64 n] w (RV w (.string (digT n))) := by
  have hc := back1 w n ⟨h0, h9⟩
  have h10 : n < 10 := by omega
  have hw8 : IntKind.u8.wrap (48 + n) = 48 + n := IntWalk.u8_in _ (by omega)
  go_enter Tryz.func139, Tryz.ntmps139
  go_wp2
  go_ret
  exact RV.mk rfl (by go_grown)
def stT (n : Int) : ByteArray := ⟨#[115, 116, 97, 116, 101, 32]⟩ ++ digT n
theorem stBody_a (n : Int) (h0 : 0 ≤ n) (h9 : n ≤ 9) (w : World) : Calls Tryz.prog 109 #[.int .i64 n] w (RV w (.string (stT n))) := by
  go_enter Tryz.func109, Tryz.ntmps109
  go_wp2_with fail
  refine (l1Num_1 n h0 h9 _).mono ?_
  rintro e w1 ⟨rfl, hb⟩
  have hB : Below w.heap.size w w1 := Below.on' (by go_grown) hb
  go_wp2
  go_ret
  exact RV.mk rfl hB
theorem StateBody_spec_no (n : Int) (g : stOk n = false) (w : World) : Calls Tryz.prog 57 #[.int .i64 n] w (RV w (.tuple #[.string ⟨#[]⟩, .bool false])) := by
  have hc := fun W => g ▸ apState_a n W
  go_enter Tryz.func57, Tryz.ntmps57
  go_wp2_with fail
  refine (hc _).mono ?_
  rintro e w1 ⟨rfl, hb⟩
  have hB : Below w.heap.size w w1 := Below.on' (by go_grown) hb
  go_wp2
  go_ret2
  exact RV.mk rfl hB
theorem stOk_in {n : Int} (g : stOk n = true) : 0 ≤ n ∧ n ≤ 5 := by simpa [stOk, inB] using g
theorem StateBody_spec_yes (n : Int) (g : stOk n = true) (w : World) : Calls Tryz.prog 57 #[.int .i64 n] w (RV w (.tuple #[.string (stT n), .bool true])) := by
  have hc := fun W => g ▸ apState_a n W
  have h := stOk_in g
  go_enter Tryz.func57, Tryz.ntmps57
  go_wp2_with fail
  refine (hc _).mono ?_
  rintro e w1 ⟨rfl, hb⟩
  have hB : Below w.heap.size w w1 := Below.on' (by go_grown) hb
  clear hb
  go_wp2_with fail
  refine (stBody_a n h.1 (by omega) _).mono ?_
  rintro e w2 ⟨rfl, hb⟩
  have hB2 := Below.on' hB hb
  go_wp2
  go_ret2
  exact RV.mk rfl hB2
end Go.Proofs.YtjmjilkpckbpeaaGreatDoor

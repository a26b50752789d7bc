/- The reference's small drawing functions: what they return, and that only the cursor changes. Conditions: a valid cursor, fewer than 2^39 steps. -/
import Derived.Test.YtacjdapfbmdddaaCur
import Derived.Test.YtacjdapfbmdddaaStrs
import Derived.Test.YtacjdapfbmdddaaInts
import Derived.Test.YtacjdapfbmdddaaPost
namespace Go.Proofs.Ytacjdapfbmdddaa
open Go.RowKit

section
variable {b : Nat} {vs : List Value} {X X' : World}
def BN (b : Nat) (vs : List Value) (X : World) : Prop := ∀ j v, vs[j]? = some v → X.cell? ⟨b, j, none⟩ = some v ∧ X.frozen? ⟨b, j, none⟩ = false
theorem BN.same (a : BN b vs X) (e : X'.heap[b]? = X.heap[b]?) : BN b vs X' := fun j v h => ⟨(World.cell?_of_block (a := ⟨b, j, none⟩) e).trans (a j v h).1, (World.frozen?_of_block (a := ⟨b, j, none⟩) e).trans (a j v h).2⟩
theorem BN.lt (a : BN b vs X) (h : vs ≠ []) : b < X.heap.size := by
  cases vs with
  | nil => exact absurd rfl h
  | cons v l => exact World.block_lt_of_cell? _ _ (a 0 v rfl).1
theorem BN.upto {B : Nat} (a : BN b vs X) (hB : b < B) (hb : Below B X X') : BN b vs X' := a.same (hb.block b hB)
theorem BN.new (w : World) (cs : Array Value) (T : TypeId) (n : Nat) (hn : n = w.heap.size) : BN n cs.toList (w.alloc (.cells cs T)) := fun j v h => by
  subst hn
  refine ⟨?_, World.frozen?_alloc_at _ _ _ _ rfl⟩
  rw [World.cell?_alloc_at _ _ _ _ rfl]
  simpa using h
theorem BN.off {b : Nat} {vs : List Value} {X : World} (a : BN b vs X) {p : Addr} (hp : p.block ≠ b) (v : Value) : BN b vs (X.setCell p v) := fun j u e => ⟨unset (a j u e).1 hp, (World.frozen?_setCell ..).trans (a j u e).2⟩
theorem BN.put {b : Nat} {vs : List Value} {X : World} (a : BN b vs X) {i : Nat} {u : Value} (hi : vs[i]? = some u) (v : Value) : BN b (vs.set i v) (X.setCell ⟨b, i, none⟩ v) := fun j z e => by
  refine ⟨?_, (World.frozen?_setCell ..).trans ?_⟩
  · by_cases q : i = j
    · subst q
      rw [List.getElem?_set_self (List.getElem?_eq_some_iff.1 hi).1] at e
      obtain rfl := Option.some.inj e
      exact World.cell?_setCell_same _ _ _ (a i u hi).1
    · rw [List.getElem?_set_ne q] at e
      exact (World.cell?_setCell_other _ _ _ _ (fun e => q (by injection e))).trans (a j z e).1
  · by_cases q : i = j
    · subst q; exact (a i u hi).2
    · rw [List.getElem?_set_ne q] at e; exact (a j z e).2
theorem BN.below (a : BN b vs X) (h : vs ≠ []) (hb : Below X.heap.size X X') : BN b vs X' := a.upto (a.lt h) hb
theorem BN.alloc (a : BN b vs X) (h : vs ≠ []) (o : Obj) : BN b vs (X.alloc o) := a.below h ((Below.refl _ _).alloc (Nat.le_refl _) o)
theorem BN.drew (a : BN b vs X) : BN b vs X.drew := a
end
theorem ints_lit (w : World) (l : List Int) (cs : Array Value) (T : TypeId) (n : Nat) (hn : n = w.heap.size) (hcs : cs = (l.map (Value.int .i64)).toArray) : Ints (w.alloc (.cells cs T)) w.heap.size (w.alloc (.cells cs T)).heap.size (some ⟨n, 0, none⟩) l := fun _ => by
  subst hn hcs
  refine ⟨w.heap.size, 0, rfl, Nat.le_refl _, by simp, Nat.le_refl _, fun i x hx j v hv => ?_⟩
  have hj : j = 0 := by have := (List.getElem?_eq_some_iff.1 hv).1; simp [Ints.cells] at this; omega
  subst hj
  have hv' : v = .int .i64 x := by simpa [Ints.cells] using hv.symm
  subst hv'
  refine ⟨?_, World.frozen?_alloc_at _ _ _ _ rfl⟩
  rw [World.cell?_alloc_at _ _ _ _ rfl]
  simp [hx]
/-- As the program lists them. -/
theorem strs_lit (w : World) (l : List ByteArray) (cs : Array Value) (T : TypeId) (n : Nat) (hn : n = w.heap.size) (hcs : cs = (l.map Value.string).toArray) : Strs (w.alloc (.cells cs T)) w.heap.size (w.alloc (.cells cs T)).heap.size (some ⟨n, 0, none⟩) l := fun _ => by
  subst hn hcs
  refine ⟨w.heap.size, 0, rfl, Nat.le_refl _, by simp, Nat.le_refl _, fun i x hx j v hv => ?_⟩
  have hj : j = 0 := by have := (List.getElem?_eq_some_iff.1 hv).1; simp [Strs.cells] at this; omega
  subst hj
  have hv' : v = .string x := by simpa [Strs.cells] using hv.symm
  subst hv'
  refine ⟨?_, World.frozen?_alloc_at _ _ _ _ rfl⟩
  rw [World.cell?_alloc_at _ _ _ _ rfl]
  simp [hx]
theorem Fr.setNew {lo hi : Nat} {w W : World} (h : Fr lo hi w W) {p : Addr} (hp : w.heap.size ≤ p.block) (u : Value) : Fr lo hi w (W.setCell p u) :=
  ⟨h.os, h.tape, h.output, Nat.le_trans h.size (by simp [World.setCell]), fun b hb hd => (Below.heap_setCell _ _ _ _ (by intro e; omega)).trans (h.block b hb hd)⟩
theorem BN.fr {b lo hi : Nat} {vs : List Value} {X X' : World} (a : BN b vs X) (hF : Fr lo hi X X') (h : vs ≠ []) (hd : b < lo ∨ hi ≤ b) : BN b vs X' := a.same (hF.block b (a.lt h) (by omega))
theorem Own.frm {α : Type} {E : α → List Value} {k : Nat} {T : TypeId} {w w' : World} {base lo hi : Nat} {A : Option Addr} {c : Nat} {l : List α} (h : Own E k T w base A c l) (hF : Fr lo hi w w') (hd : hi ≤ base) : Own E k T w' base A c l := h.keep fun b h1 h2 => hF.block b h2 (by omega)
theorem Cur.set {pb N c : Nat} {A : Option Addr} {l : List Int} {w : World} (h : Cur pb A c l N w) {p : Addr} (hp : pb < p.block) (u : Value) : Cur pb A c l N (w.setCell p u) :=
  h.upto (B := pb + 1) (by omega) (((Fr.refl p.block (p.block + 1) w).setCell ⟨Nat.le_refl _, Nat.lt_succ_self _⟩ u).below (by omega) (by have := h.lt; omega))
theorem among_lit (pb : Nat) (A : Option Addr) (c : Nat) (l : List Int) (N : Nat) (L : List Int) (d : Nat) (hd : d = L.length) (W : World) (cs : Array Value) (T : TypeId) (g : Nat) (hg : g = W.heap.size) (hcs : cs = (L.map (Value.int .i64)).toArray) (hC : Cur pb A c l N W) (hN : N ≤ 1000000000000) (h1 : 0 < L.length) (h2 : L.length ≤ 1048576) :
    Calls Try.prog 57 #[.pointer (some ⟨pb, 0, none⟩), .slice (some ⟨g, 0, none⟩) d d] (W.alloc (.cells cs T)) fun e w' => ∃ k : Int, k ∈ L ∧ e = .returned (.int .i64 k) ∧ Cur pb A c l (N + 2) w' ∧ Fr pb (pb + 1) W w' := by
  have hS := ints_lit W L cs T g hg hcs
  subst hd
  refine (among_any pb A c l N _ L.length _ _ L _ (hC.alloc _) hN hS (.inr hC.lt) h1 h2).mono ?_
  rintro e w' ⟨v, rfl, ⟨k, hk, rfl⟩, hC', hF⟩
  exact ⟨k, hk, rfl, hC', ((Fr.refl _ _ _).alloc _).trans hF⟩
theorem of_lit (pb : Nat) (A : Option Addr) (c : Nat) (l : List Int) (N : Nat) (L : List ByteArray) (d : Nat) (hd : d = L.length) (m : Nat) (hm : ∀ s ∈ L, s.size ≤ m) (W : World) (cs : Array Value) (T : TypeId) (g : Nat) (hg : g = W.heap.size) (hcs : cs = (L.map Value.string).toArray) (hC : Cur pb A c l N W) (hN : N ≤ 1000000000000) (h1 : 0 < L.length) (h2 : L.length ≤ 1048576) :
    Calls Try.prog 45 #[.pointer (some ⟨pb, 0, none⟩), .slice (some ⟨g, 0, none⟩) d d] (W.alloc (.cells cs T)) fun e w' => ∃ s : ByteArray, s.size ≤ m ∧ e = .returned (.string s) ∧ Cur pb A c l (N + 2) w' ∧ Fr pb (pb + 1) W w' := by
  have hS := strs_lit W L cs T g hg hcs
  subst hd
  refine (of_any pb A c l N _ L.length _ _ L _ (hC.alloc _) hN hS (.inr hC.lt) h1 h2).mono ?_
  rintro e w' ⟨v, rfl, ⟨k, hk, rfl⟩, hC', hF⟩
  exact ⟨k, hm k hk, rfl, hC', ((Fr.refl _ _ _).alloc _).trans hF⟩
/-- The call returned a text of at most m bytes; only the cursor changed. -/
def CS (pb : Nat) (A : Option Addr) (c : Nat) (l : List Int) (N : Nat) (m : Nat) (w : World) (e : Ending) (w' : World) : Prop := ∃ s : ByteArray, s.size ≤ m ∧ e = .returned (.string s) ∧ Cur pb A c l N w' ∧ Fr pb (pb + 1) w w'
/-- The call returned a number; only the cursor changed. -/
def CI (pb : Nat) (A : Option Addr) (c : Nat) (l : List Int) (N : Nat) (w : World) (e : Ending) (w' : World) : Prop := ∃ k : Int, e = .returned (.int .i64 k) ∧ Cur pb A c l N w' ∧ Fr pb (pb + 1) w w'
end Go.Proofs.Ytacjdapfbmdddaa

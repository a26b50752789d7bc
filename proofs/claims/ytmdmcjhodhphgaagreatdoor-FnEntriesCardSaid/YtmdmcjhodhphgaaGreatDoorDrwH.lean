/- Drawing copies of logs and histories: what it returns, and that only the cursor changes. Conditions: a valid cursor, fewer than 2^39 steps. -/
import Derived.Test.YtmdmcjhodhphgaaGreatDoorDrwG
import Derived.Test.YtmdmcjhodhphgaaGreatDoorByt
import Derived.Test.YtmdmcjhodhphgaaGreatDoorReg
namespace Go.Proofs.YtmdmcjhodhphgaaGreatDoor
open Go.RowKit

theorem Sl.tail1 {α : Type} {E : α → List Value} {k : Nat} {w : World} {lo hi b off : Nat} {x : α} {l : List α} (h : Sl E k w lo hi (some ⟨b, off, none⟩) (x :: l)) : Sl E k w lo hi (some ⟨b, off + k, none⟩) l := fun _ => by
  obtain ⟨b', off', e, h1, h2, h3, f⟩ := h (by simp)
  injection e with e
  injection e with e1 e2
  subst e1 e2
  refine ⟨b, off + k, rfl, h1, h2, h3, fun i y hy j v hv => ?_⟩
  have := f (i + 1) y (by simpa using hy) j v hv
  rw [show off + (i + 1) * k + j = off + k + i * k + j by rw [Nat.add_mul]; omega] at this
  exact this
/-- A drawn list in the blocks from b on. -/
def EL (b : Nat) (W : World) (B : Option Addr) (d : Nat) (L : List Ent) : Prop := (L.length ≤ 60 ∧ L.length ≤ d) ∧ (∀ y ∈ L, y.t.size ≤ 41) ∧ Ents W b W.heap.size B L
theorem EL.below {b : Nat} {W w' : World} {B : Option Addr} {d : Nat} {L : List Ent} (h : EL b W B d L) (hb : Below W.heap.size W w') : EL b w' B d L := ⟨h.1, h.2.1, (h.2.2.below hb).mono (Nat.le_refl _) hb.size (Nat.le_refl _)⟩
theorem EL.cur {pb : Nat} {W w' : World} {B : Option Addr} {d : Nat} {L : List Ent} (h : EL (pb + 1) W B d L) (hF : Fr pb (pb + 1) W w') : EL (pb + 1) w' B d L := by
  have h3 : Ents w' (pb + 1) W.heap.size B L := h.2.2.fr hF (Or.inr (Nat.le_refl _))
  exact ⟨h.1, h.2.1, h3.mono (Nat.le_refl _) hF.size (Nat.le_refl _)⟩
theorem EL.lift {b b0 : Nat} {W : World} {B : Option Addr} {d : Nat} {L : List Ent} (h : EL b W B d L) (hb : b0 ≤ b) : EL b0 W B d L := ⟨h.1, h.2.1, h.2.2.mono hb (Nat.le_refl _) (Nat.le_refl _)⟩
theorem EL.of {b base d : Nat} {W : World} {B : Option Addr} {L : List Ent} (h1 : L.length ≤ 60) (h2 : ∀ y ∈ L, y.t.size ≤ 41) (hO : Own Ent.cells 4 33 W base B d L) (hb : b ≤ base) : EL b W B d L := ⟨⟨h1, hO.cap⟩, h2, (hO.lift hb).sl Ent.len⟩
theorem log_in {L : List Ent} (h : logB L = true) : L.length ≤ 60 := by have := logB_len h; omega
end Go.Proofs.YtmdmcjhodhphgaaGreatDoor

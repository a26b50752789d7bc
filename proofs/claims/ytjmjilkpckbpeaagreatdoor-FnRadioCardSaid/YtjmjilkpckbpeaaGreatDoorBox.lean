/- Boxes of three and of four values in memory: what steps leave them, and what a result that lies in one reads back. No conditions. -/
import Derived.Test.YtjmjilkpckbpeaaGreatDoorLA
namespace Go.Proofs.YtjmjilkpckbpeaaGreatDoor
open Go.RowKit

/-- A box of 3 values. -/
structure R3 (b : Nat) (x0 x1 x2 : Value) (X : World) : Prop where
  c0 : X.cell? ⟨b, 0, none⟩ = some x0
  c1 : X.cell? ⟨b, 1, none⟩ = some x1
  c2 : X.cell? ⟨b, 2, none⟩ = some x2
  f0 : X.frozen? ⟨b, 0, none⟩ = false
  f1 : X.frozen? ⟨b, 1, none⟩ = false
  f2 : X.frozen? ⟨b, 2, none⟩ = false
section
variable {b : Nat} {x0 x1 x2 : Value} {X X' : World}
theorem R3.lt (a : R3 b x0 x1 x2 X) : b < X.heap.size := World.block_lt_of_cell? _ _ a.c0
theorem R3.upto {B : Nat} (a : R3 b x0 x1 x2 X) (hB : b < B) (hb : Below B X X') : R3 b x0 x1 x2 X' :=
  have h0 : ∀ o, X'.cell? ⟨b, o, none⟩ = X.cell? ⟨b, o, none⟩ := fun o => hb.cell (p := ⟨b, o, none⟩) hB
  have k0 : ∀ o, X'.frozen? ⟨b, o, none⟩ = X.frozen? ⟨b, o, none⟩ := fun o => hb.frozen (p := ⟨b, o, none⟩) hB
  ⟨(h0 0).trans a.c0, (h0 1).trans a.c1, (h0 2).trans a.c2, (k0 0).trans a.f0, (k0 1).trans a.f1, (k0 2).trans a.f2⟩
theorem R3.below (a : R3 b x0 x1 x2 X) (hb : Below X.heap.size X X') : R3 b x0 x1 x2 X' := a.upto a.lt hb
theorem R3.alloc (a : R3 b x0 x1 x2 X) (o : Obj) : R3 b x0 x1 x2 (X.alloc o) := a.below ((Below.refl _ _).alloc (Nat.le_refl _) o)
theorem R3.off (a : R3 b x0 x1 x2 X) {p : Addr} (hp : p.block ≠ b) (v : Value) : R3 b x0 x1 x2 (X.setCell p v) :=
  ⟨unset a.c0 hp, unset a.c1 hp, unset a.c2 hp, (World.frozen?_setCell ..).trans a.f0, (World.frozen?_setCell ..).trans a.f1, (World.frozen?_setCell ..).trans a.f2⟩
theorem R3.new (w : World) (x0 x1 x2 : Value) (T : TypeId) (n : Nat) (hn : n = w.heap.size) : R3 n x0 x1 x2 (w.alloc (.cells #[x0, x1, x2] T)) := by
  subst hn
  exact ⟨by simp, by simp, by simp, World.frozen?_alloc_at _ _ _ _ rfl, World.frozen?_alloc_at _ _ _ _ rfl, World.frozen?_alloc_at _ _ _ _ rfl⟩
theorem R3.set0 (a : R3 b x0 x1 x2 X) (v : Value) : R3 b v x1 x2 (X.setCell ⟨b, 0, none⟩ v) :=
  ⟨World.cell?_setCell_same _ _ _ a.c0, (World.cell?_setCell_other _ _ _ _ (by simp)).trans a.c1, (World.cell?_setCell_other _ _ _ _ (by simp)).trans a.c2, (World.frozen?_setCell ..).trans a.f0, (World.frozen?_setCell ..).trans a.f1, (World.frozen?_setCell ..).trans a.f2⟩
theorem R3.set1 (a : R3 b x0 x1 x2 X) (v : Value) : R3 b x0 v x2 (X.setCell ⟨b, 1, none⟩ v) :=
  ⟨(World.cell?_setCell_other _ _ _ _ (by simp)).trans a.c0, World.cell?_setCell_same _ _ _ a.c1, (World.cell?_setCell_other _ _ _ _ (by simp)).trans a.c2, (World.frozen?_setCell ..).trans a.f0, (World.frozen?_setCell ..).trans a.f1, (World.frozen?_setCell ..).trans a.f2⟩
theorem R3.set2 (a : R3 b x0 x1 x2 X) (v : Value) : R3 b x0 x1 v (X.setCell ⟨b, 2, none⟩ v) :=
  ⟨(World.cell?_setCell_other _ _ _ _ (by simp)).trans a.c0, (World.cell?_setCell_other _ _ _ _ (by simp)).trans a.c1, World.cell?_setCell_same _ _ _ a.c2, (World.frozen?_setCell ..).trans a.f0, (World.frozen?_setCell ..).trans a.f1, (World.frozen?_setCell ..).trans a.f2⟩
theorem R3.out (a : R3 b x0 x1 x2 X) (v0 v1 v2 : Value) : (X.setCell ⟨b, 0, none⟩ v0).cell? ⟨b, 0, none⟩ = some v0 ∧ ((X.setCell ⟨b, 0, none⟩ v0).setCell ⟨b, 1, none⟩ v1).cell? ⟨b, 1, none⟩ = some v1 ∧ (((X.setCell ⟨b, 0, none⟩ v0).setCell ⟨b, 1, none⟩ v1).setCell ⟨b, 2, none⟩ v2).cell? ⟨b, 2, none⟩ = some v2 :=
  ⟨(a.set0 v0).c0, ((a.set0 v0).set1 v1).c1, (((a.set0 v0).set1 v1).set2 v2).c2⟩
end
/-- A box of 4 values. -/
structure R4 (b : Nat) (x0 x1 x2 x3 : Value) (X : World) : Prop where
  c0 : X.cell? ⟨b, 0, none⟩ = some x0
  c1 : X.cell? ⟨b, 1, none⟩ = some x1
  c2 : X.cell? ⟨b, 2, none⟩ = some x2
  c3 : X.cell? ⟨b, 3, none⟩ = some x3
  f0 : X.frozen? ⟨b, 0, none⟩ = false
  f1 : X.frozen? ⟨b, 1, none⟩ = false
  f2 : X.frozen? ⟨b, 2, none⟩ = false
  f3 : X.frozen? ⟨b, 3, none⟩ = false
section
variable {b : Nat} {x0 x1 x2 x3 : Value} {X X' : World}
theorem R4.lt (a : R4 b x0 x1 x2 x3 X) : b < X.heap.size := World.block_lt_of_cell? _ _ a.c0
theorem R4.upto {B : Nat} (a : R4 b x0 x1 x2 x3 X) (hB : b < B) (hb : Below B X X') : R4 b x0 x1 x2 x3 X' :=
  have h0 : ∀ o, X'.cell? ⟨b, o, none⟩ = X.cell? ⟨b, o, none⟩ := fun o => hb.cell (p := ⟨b, o, none⟩) hB
  have k0 : ∀ o, X'.frozen? ⟨b, o, none⟩ = X.frozen? ⟨b, o, none⟩ := fun o => hb.frozen (p := ⟨b, o, none⟩) hB
  ⟨(h0 0).trans a.c0, (h0 1).trans a.c1, (h0 2).trans a.c2, (h0 3).trans a.c3, (k0 0).trans a.f0, (k0 1).trans a.f1, (k0 2).trans a.f2, (k0 3).trans a.f3⟩
theorem R4.below (a : R4 b x0 x1 x2 x3 X) (hb : Below X.heap.size X X') : R4 b x0 x1 x2 x3 X' := a.upto a.lt hb
theorem R4.alloc (a : R4 b x0 x1 x2 x3 X) (o : Obj) : R4 b x0 x1 x2 x3 (X.alloc o) := a.below ((Below.refl _ _).alloc (Nat.le_refl _) o)
theorem R4.off (a : R4 b x0 x1 x2 x3 X) {p : Addr} (hp : p.block ≠ b) (v : Value) : R4 b x0 x1 x2 x3 (X.setCell p v) :=
  ⟨unset a.c0 hp, unset a.c1 hp, unset a.c2 hp, unset a.c3 hp, (World.frozen?_setCell ..).trans a.f0, (World.frozen?_setCell ..).trans a.f1, (World.frozen?_setCell ..).trans a.f2, (World.frozen?_setCell ..).trans a.f3⟩
theorem R4.new (w : World) (x0 x1 x2 x3 : Value) (T : TypeId) (n : Nat) (hn : n = w.heap.size) : R4 n x0 x1 x2 x3 (w.alloc (.cells #[x0, x1, x2, x3] T)) := by
  subst hn
  exact ⟨by simp, by simp, by simp, by simp, World.frozen?_alloc_at _ _ _ _ rfl, World.frozen?_alloc_at _ _ _ _ rfl, World.frozen?_alloc_at _ _ _ _ rfl, World.frozen?_alloc_at _ _ _ _ rfl⟩
theorem R4.set0 (a : R4 b x0 x1 x2 x3 X) (v : Value) : R4 b v x1 x2 x3 (X.setCell ⟨b, 0, none⟩ v) :=
  ⟨World.cell?_setCell_same _ _ _ a.c0, (World.cell?_setCell_other _ _ _ _ (by simp)).trans a.c1, (World.cell?_setCell_other _ _ _ _ (by simp)).trans a.c2, (World.cell?_setCell_other _ _ _ _ (by simp)).trans a.c3, (World.frozen?_setCell ..).trans a.f0, (World.frozen?_setCell ..).trans a.f1, (World.frozen?_setCell ..).trans a.f2, (World.frozen?_setCell ..).trans a.f3⟩
theorem R4.set1 (a : R4 b x0 x1 x2 x3 X) (v : Value) : R4 b x0 v x2 x3 (X.setCell ⟨b, 1, none⟩ v) :=
  ⟨(World.cell?_setCell_other _ _ _ _ (by simp)).trans a.c0, World.cell?_setCell_same _ _ _ a.c1, (World.cell?_setCell_other _ _ _ _ (by simp)).trans a.c2, (World.cell?_setCell_other _ _ _ _ (by simp)).trans a.c3, (World.frozen?_setCell ..).trans a.f0, (World.frozen?_setCell ..).trans a.f1, (World.frozen?_setCell ..).trans a.f2, (World.frozen?_setCell ..).trans a.f3⟩
theorem R4.set2 (a : R4 b x0 x1 x2 x3 X) (v : Value) : R4 b x0 x1 v x3 (X.setCell ⟨b, 2, none⟩ v) :=
  ⟨(World.cell?_setCell_other _ _ _ _ (by simp)).trans a.c0, (World.cell?_setCell_other _ _ _ _ (by simp)).trans a.c1, World.cell?_setCell_same _ _ _ a.c2, (World.cell?_setCell_other _ _ _ _ (by simp)).trans a.c3, (World.frozen?_setCell ..).trans a.f0, (World.frozen?_setCell ..).trans a.f1, (World.frozen?_setCell ..).trans a.f2, (World.frozen?_setCell ..).trans a.f3⟩
theorem R4.set3 (a : R4 b x0 x1 x2 x3 X) (v : Value) : R4 b x0 x1 x2 v (X.setCell ⟨b, 3, none⟩ v) :=
  ⟨(World.cell?_setCell_other _ _ _ _ (by simp)).trans a.c0, (World.cell?_setCell_other _ _ _ _ (by simp)).trans a.c1, (World.cell?_setCell_other _ _ _ _ (by simp)).trans a.c2, World.cell?_setCell_same _ _ _ a.c3, (World.frozen?_setCell ..).trans a.f0, (World.frozen?_setCell ..).trans a.f1, (World.frozen?_setCell ..).trans a.f2, (World.frozen?_setCell ..).trans a.f3⟩
theorem R4.out (a : R4 b x0 x1 x2 x3 X) (v0 v1 v2 v3 : Value) : (X.setCell ⟨b, 0, none⟩ v0).cell? ⟨b, 0, none⟩ = some v0 ∧ ((X.setCell ⟨b, 0, none⟩ v0).setCell ⟨b, 1, none⟩ v1).cell? ⟨b, 1, none⟩ = some v1 ∧ (((X.setCell ⟨b, 0, none⟩ v0).setCell ⟨b, 1, none⟩ v1).setCell ⟨b, 2, none⟩ v2).cell? ⟨b, 2, none⟩ = some v2 ∧ ((((X.setCell ⟨b, 0, none⟩ v0).setCell ⟨b, 1, none⟩ v1).setCell ⟨b, 2, none⟩ v2).setCell ⟨b, 3, none⟩ v3).cell? ⟨b, 3, none⟩ = some v3 :=
  ⟨(a.set0 v0).c0, ((a.set0 v0).set1 v1).c1, (((a.set0 v0).set1 v1).set2 v2).c2, ((((a.set0 v0).set1 v1).set2 v2).set3 v3).c3⟩
end
end Go.Proofs.YtjmjilkpckbpeaaGreatDoor

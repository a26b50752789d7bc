/- Channels in memory, and the law's own helpers over them. Conditions: lists and texts of at most 2^20; marks in 1 .. 50000000. -/
import Derived.Test.YtacjdapfbmdddaaMsgMk
import Derived.Test.YtacjdapfbmdddaaMsgArg
import Derived.Test.YtacjdapfbmdddaaPost
namespace Go.Proofs.Ytacjdapfbmdddaa
open Go.RowKit

def okM (l : List Msg) : Prop := l.length ≤ 1048576 ∧ ∀ x ∈ l, x.f.size ≤ 1048576 ∧ x.b.size ≤ 1048576
theorem cells3 {w : World} {a b c : Value} {T : TypeId} : (w.alloc (.cells #[a, b, c] T)).cell? ⟨w.heap.size, 0, none⟩ = some a ∧ (w.alloc (.cells #[a, b, c] T)).cell? ⟨w.heap.size, 1, none⟩ = some b ∧ (w.alloc (.cells #[a, b, c] T)).cell? ⟨w.heap.size, 2, none⟩ = some c := ⟨by simp, by simp, by simp⟩
/-- A box of three values. -/
structure B3 (b : Nat) (x y z : Value) (X : World) : Prop where
  c0 : X.cell? ⟨b, 0, none⟩ = some x
  c1 : X.cell? ⟨b, 1, none⟩ = some y
  c2 : X.cell? ⟨b, 2, none⟩ = some z
  f0 : X.frozen? ⟨b, 0, none⟩ = false
  f1 : X.frozen? ⟨b, 1, none⟩ = false
  f2 : X.frozen? ⟨b, 2, none⟩ = false
section
variable {b : Nat} {x y z : Value} {X X' : World}
theorem B3.lt (a : B3 b x y z X) : b < X.heap.size := World.block_lt_of_cell? _ _ a.c0
theorem B3.upto {B : Nat} (a : B3 b x y z X) (hB : b < B) (hb : Below B X X') : B3 b x y z X' :=
  have h0 : ∀ o, X'.cell? ⟨b, o, none⟩ = X.cell? ⟨b, o, none⟩ := fun o => hb.cell (p := ⟨b, o, none⟩) hB
  have k0 : ∀ o, X'.frozen? ⟨b, o, none⟩ = X.frozen? ⟨b, o, none⟩ := fun o => hb.frozen (p := ⟨b, o, none⟩) hB
  ⟨(h0 0).trans a.c0, (h0 1).trans a.c1, (h0 2).trans a.c2, (k0 0).trans a.f0, (k0 1).trans a.f1, (k0 2).trans a.f2⟩
theorem B3.below (a : B3 b x y z X) (hb : Below X.heap.size X X') : B3 b x y z X' := a.upto a.lt hb
theorem B3.alloc (a : B3 b x y z X) (o : Obj) : B3 b x y z (X.alloc o) := a.below ((Below.refl _ _).alloc (Nat.le_refl _) o)
theorem B3.new (w : World) (x y z : Value) (T : TypeId) (n : Nat) (hn : n = w.heap.size) : B3 n x y z (w.alloc (.cells #[x, y, z] T)) := by
  subst hn
  exact ⟨by simp, by simp, by simp, World.frozen?_alloc_at _ _ _ _ rfl, World.frozen?_alloc_at _ _ _ _ rfl, World.frozen?_alloc_at _ _ _ _ rfl⟩
theorem B3.off (a : B3 b x y z X) {p : Addr} (hp : p.block ≠ b) (v : Value) : B3 b x y z (X.setCell p v) :=
  ⟨unset a.c0 hp, unset a.c1 hp, unset a.c2 hp, (World.frozen?_setCell ..).trans a.f0, (World.frozen?_setCell ..).trans a.f1, (World.frozen?_setCell ..).trans a.f2⟩
theorem B3.set0 (a : B3 b x y z X) (v : Value) : B3 b v y z (X.setCell ⟨b, 0, none⟩ v) :=
  ⟨World.cell?_setCell_same _ _ _ a.c0, (World.cell?_setCell_other _ _ _ _ (by simp)).trans a.c1, (World.cell?_setCell_other _ _ _ _ (by simp)).trans a.c2, (World.frozen?_setCell ..).trans a.f0, (World.frozen?_setCell ..).trans a.f1, (World.frozen?_setCell ..).trans a.f2⟩
theorem B3.set1 (a : B3 b x y z X) (v : Value) : B3 b x v z (X.setCell ⟨b, 1, none⟩ v) :=
  ⟨(World.cell?_setCell_other _ _ _ _ (by simp)).trans a.c0, World.cell?_setCell_same _ _ _ a.c1, (World.cell?_setCell_other _ _ _ _ (by simp)).trans a.c2, (World.frozen?_setCell ..).trans a.f0, (World.frozen?_setCell ..).trans a.f1, (World.frozen?_setCell ..).trans a.f2⟩
theorem B3.set2 (a : B3 b x y z X) (v : Value) : B3 b x y v (X.setCell ⟨b, 2, none⟩ v) :=
  ⟨(World.cell?_setCell_other _ _ _ _ (by simp)).trans a.c0, (World.cell?_setCell_other _ _ _ _ (by simp)).trans a.c1, World.cell?_setCell_same _ _ _ a.c2, (World.frozen?_setCell ..).trans a.f0, (World.frozen?_setCell ..).trans a.f1, (World.frozen?_setCell ..).trans a.f2⟩
theorem B3.out (a : B3 b x y z X) (v0 v1 v2 : Value) : (X.setCell ⟨b, 0, none⟩ v0).cell? ⟨b, 0, none⟩ = some v0 ∧ ((X.setCell ⟨b, 0, none⟩ v0).setCell ⟨b, 1, none⟩ v1).cell? ⟨b, 1, none⟩ = some v1 ∧ (((X.setCell ⟨b, 0, none⟩ v0).setCell ⟨b, 1, none⟩ v1).setCell ⟨b, 2, none⟩ v2).cell? ⟨b, 2, none⟩ = some v2 :=
  ⟨(a.set0 v0).c0, ((a.set0 v0).set1 v1).c1, (((a.set0 v0).set1 v1).set2 v2).c2⟩
end
theorem Fr.wide {lo hi lo' hi' : Nat} {w w' : World} (h : Fr lo hi w w') (h1 : lo' ≤ lo) (h2 : hi ≤ hi') : Fr lo' hi' w w' := ⟨h.os, h.tape, h.output, h.size, fun b hb hn => h.block b hb (by omega)⟩
end Go.Proofs.Ytacjdapfbmdddaa

/- Small words that the texts of this seat share: what a call's end says (RV), and that what lay in memory reads as it did (bcell). No conditions. -/
import Derived.Test.YtacjdapfbmdddaaRows
import Derived.Handy
import Derived.WalkLawsBesides
import Derived.WalkSpells
import Derived.BigQuiet
import Derived.Lib.Hide
namespace Go.Proofs.Ytacjdapfbmdddaa
open Go.RowKit

/-- The call returned v; what lay in memory lies as it lay. -/
def RV (w : World) (v : Value) (e : Ending) (w' : World) : Prop := e = .returned v ∧ Below w.heap.size w w'

theorem RV.mk {w w' : World} {v u : Value} (h : u = v) (hb : Below w.heap.size w w') : RV w v (.returned u) w' := ⟨by rw [h], hb⟩

theorem bcell {W w1 : World} (hb : Below W.heap.size W w1) : (∀ b o, b < W.heap.size → w1.cell? ⟨b, o, none⟩ = W.cell? ⟨b, o, none⟩) ∧ (∀ b o, b < W.heap.size → w1.frozen? ⟨b, o, none⟩ = W.frozen? ⟨b, o, none⟩) ∧ W.heap.size ≤ w1.heap.size :=
  ⟨fun b o h => hb.cell (p := ⟨b, o, none⟩) h, fun b o h => hb.frozen (p := ⟨b, o, none⟩) h, hb.size⟩

/-- The same with what the walk needs to follow a block through several calls. -/
theorem bfam {W w1 : World} (hb : Below W.heap.size W w1) : (∀ b o, b < W.heap.size → w1.cell? ⟨b, o, none⟩ = W.cell? ⟨b, o, none⟩) ∧ (∀ b o, b < W.heap.size → w1.frozen? ⟨b, o, none⟩ = W.frozen? ⟨b, o, none⟩) ∧ (∀ b, b < W.heap.size → b < w1.heap.size) ∧ W.heap.size ≤ w1.heap.size :=
  ⟨fun b o h => hb.cell (p := ⟨b, o, none⟩) h, fun b o h => hb.frozen (p := ⟨b, o, none⟩) h, fun _ h => Nat.lt_of_lt_of_le h hb.size, hb.size⟩

/-- Two steps, the second over the world behind the first. -/
theorem Below.on {B : Nat} {a b c : World} (h : Below B a b) (hB : B ≤ b.heap.size) (k : Below b.heap.size b c) : Below B a c := h.trans (k.mono hB)

theorem Below.on' {w W w' : World} (h : Below w.heap.size w W) (k : Below W.heap.size W w') : Below w.heap.size w w' := h.trans (k.mono h.size)
/-- A cell that was there before a call is there behind it. -/
theorem keep {W w' : World} (hb : Below W.heap.size W w') {a : Addr} {v : Value} (h : W.cell? a = some v) : w'.cell? a = some v := (hb.cell (World.block_lt_of_cell? _ _ h)).trans h
theorem lay {W : World} (o : Obj) {a : Addr} {v : Value} (h : W.cell? a = some v) : (W.alloc o).cell? a = some v := (World.cell?_alloc_lt _ _ _ (World.block_lt_of_cell? _ _ h)).trans h
theorem keepF {W W' : World} (hb : Below W.heap.size W W') {a : Addr} {f : Bool} (hl : a.block < W.heap.size) (h : W.frozen? a = f) : W'.frozen? a = f := (hb.frozen hl).trans h
theorem new2 {w w1 : World} {a b : Value} {t : TypeId} (hb : Below (w.drew.alloc (.cells #[a, b] t)).heap.size (w.drew.alloc (.cells #[a, b] t)) w1) :
    w1.cell? ⟨w.heap.size, 0, none⟩ = some a ∧ w1.cell? ⟨w.heap.size, 1, none⟩ = some b ∧ w1.frozen? ⟨w.heap.size, 0, none⟩ = false ∧ w1.frozen? ⟨w.heap.size, 1, none⟩ = false := by
  refine ⟨keep hb ?_, keep hb ?_, keepF hb ?_ ?_, keepF hb ?_ ?_⟩
  · rw [World.cell?_alloc_at _ _ _ _ (by simp)]; rfl
  · rw [World.cell?_alloc_at _ _ _ _ (by simp)]; rfl
  · simp
  · exact World.frozen?_alloc_at _ _ _ _ (by simp)
  · simp
  · exact World.frozen?_alloc_at _ _ _ _ (by simp)
theorem two_set {X : World} {B : Nat} {a b x y : Value} (h0 : X.cell? ⟨B, 0, none⟩ = some a) (h1 : X.cell? ⟨B, 1, none⟩ = some b) :
    ((X.setCell ⟨B, 0, none⟩ x).setCell ⟨B, 1, none⟩ y).cell? ⟨B, 0, none⟩ = some x ∧ ((X.setCell ⟨B, 0, none⟩ x).setCell ⟨B, 1, none⟩ y).cell? ⟨B, 1, none⟩ = some y :=
  ⟨(World.cell?_setCell_other _ _ _ _ (by simp)).trans (World.cell?_setCell_same _ _ _ h0), World.cell?_setCell_same _ _ _ ((World.cell?_setCell_other _ _ _ _ (by simp)).trans h1)⟩
theorem relay {W : World} {o o' : Obj} {a : Addr} {v : Value} (h : (W.alloc o).cell? a = some v) (hn : a.block ≠ W.heap.size) : (W.alloc o').cell? a = some v := by
  rw [World.cell?_alloc_old _ _ _ hn] at h ⊢; exact h
theorem unset {W : World} {p a : Addr} {v u : Value} (h : W.cell? a = some v) (hn : p.block ≠ a.block) : (W.setCell p u).cell? a = some v := by
  rw [World.cell?_setCell_other _ _ _ _ (fun e => hn (by rw [e]))]; exact h
theorem Below.lay {w W : World} (h : Below w.heap.size w W) (o : Obj) : Below w.heap.size w (W.alloc o) := h.alloc h.size o
theorem vbool {a b : Bool} (h : a = b) : Value.bool a = .bool b := by rw [h]
theorem vint {k : IntKind} {a b : Int} (h : a = b) : Value.int k a = .int k b := by rw [h]

end Go.Proofs.Ytacjdapfbmdddaa

/- The Draw functions over channels: what they return, and that older blocks stay. No conditions. -/
import Derived.Test.YtjmjilkpckbpeaaGreatDoorDrwN
import Derived.Test.YtjmjilkpckbpeaaGreatDoorByt
namespace Go.Proofs.YtjmjilkpckbpeaaGreatDoor
open Go.RowKit

/-- A drawn channel in rows of its own. -/
def ChD (base : Nat) (W : World) (A1 : Option Addr) (c1 : Nat) (s : List Msg) (A2 : Option Addr) (c2 : Nat) (r : List Msg) (A3 : Option Addr) (c3 : Nat) (h : List Msg) : Prop := (s.length ≤ 100 ∧ r.length ≤ 100 ∧ h.length ≤ 100) ∧ (sm s ∧ sm r ∧ sm h) ∧ OwnC W base A1 c1 s A2 c2 r A3 c3 h
theorem Cur.away {pb c N g : Nat} {A : Option Addr} {l : List Int} {w w' : World} (h : Cur pb A c l N w) (hF : Fr g (g + 1) w w') (hg : g < pb) (hS : Sl byE 1 w 0 g A l) : Cur pb A c l N w' := by
  have hlt := h.lt
  obtain ⟨p, q, h0, h1, h2, h3, h4, h5⟩ := h.st
  have e := hF.block pb hlt (by omega)
  refine ⟨⟨p, q, (World.cell?_of_block (a := ⟨pb, 0, none⟩) e).trans h0, (World.cell?_of_block (a := ⟨pb, 1, none⟩) e).trans h1, (World.cell?_of_block (a := ⟨pb, 2, none⟩) e).trans h2, (World.frozen?_of_block (a := ⟨pb, 1, none⟩) e).trans h3, (World.frozen?_of_block (a := ⟨pb, 2, none⟩) e).trans h4, h5⟩, ?_, h.byte, h.len⟩
  exact (hS.keep (fun b _ hb => hF.block b (by omega) (by omega)) hF.size).mono (Nat.le_refl _) (by omega) (by have := hF.size; omega)
def lenS : Value → Nat
  | .string s => s.size
  | _ => 0
theorem of_one (pb : Nat) (A : Option Addr) (c : Nat) (l : List Int) (N : Nat) (L : List ByteArray) (d : Nat) (hd : d = L.length) (hm : ∀ s ∈ L, s.size = 1) (W : World) (cs : Array Value) (T : TypeId) (g : Nat) (hg : g = W.heap.size) (hcs : cs = (L.map Value.string).toArray) (hC : Cur pb A c l N W) (hN : N ≤ 1000000000000) (h1 : 0 < L.length) (h2 : L.length ≤ 1048576) :
    Calls Tryz.prog 90 #[.pointer (some ⟨pb, 0, none⟩), .slice (some ⟨g, 0, none⟩) d d] (W.alloc (.cells cs T)) fun e w' => ∃ s : ByteArray, s.size = 1 ∧ e = .returned (.string s) ∧ Cur pb A c l (N + 2) w' ∧ Fr pb (pb + 1) W w' := by
  have hS := strs_lit W L cs T g hg hcs
  subst hd
  refine (of_any pb A c l N _ L.length _ _ L _ (hC.alloc _) hN hS (.inr hC.lt) h1 h2).mono ?_
  rintro e w' ⟨v, rfl, ⟨k, hk, rfl⟩, hC', hF⟩
  exact ⟨k, hm k hk, rfl, hC', ((Fr.refl _ _ _).alloc _).trans hF⟩
/-- A plan being drawn: the channel's box, its rows, the result's box, the cursor. -/
structure RD (w : World) (bx : Nat) (A : Option Addr) (c : Nat) (l : List Int) (N : Nat) (A1 : Option Addr) (c1 : Nat) (s : List Msg) (A2 : Option Addr) (c2 : Nat) (r : List Msg) (A3 : Option Addr) (c3 : Nat) (h : List Msg) (zs : List Value) (W : World) : Prop where
  x : BN bx [.slice A1 s.length c1, .slice A2 r.length c2, .slice A3 h.length c3] W
  o : OwnC W (w.heap.size + 2) A1 c1 s A2 c2 r A3 c3 h
  z : BN w.heap.size zs W
  cur : Cur (w.heap.size + 1) A c l N W
  cd : Sl byE 1 W 0 w.heap.size A l
  b : Below w.heap.size w W
  hx : w.heap.size + 2 ≤ bx
section
variable {w W W' : World} {bx c N M : Nat} {A : Option Addr} {l : List Int} {A1 : Option Addr} {c1 : Nat} {s : List Msg} {A2 : Option Addr} {c2 : Nat} {r : List Msg} {A3 : Option Addr} {c3 : Nat} {h : List Msg} {zs : List Value}
theorem RD.step (q : RD w bx A c l N A1 c1 s A2 c2 r A3 c3 h zs W) (hz : zs ≠ []) (hF : Fr (w.heap.size + 1) (w.heap.size + 1 + 1) W W') (hC : Cur (w.heap.size + 1) A c l M W') : RD w bx A c l M A1 c1 s A2 c2 r A3 c3 h zs W' :=
  ⟨q.x.fr hF (by simp) (.inr (by have := q.hx; omega)), q.o.far hF (by omega), q.z.fr hF hz (.inl (by omega)), hC, q.cd.keep (fun b _ hb => hF.block b (by have := q.b.size; omega) (by omega)) hF.size, q.b.trans (hF.below (B := w.heap.size) (by omega) q.b.size), q.hx⟩
theorem RD.below (q : RD w bx A c l N A1 c1 s A2 c2 r A3 c3 h zs W) (hz : zs ≠ []) (hb : Below W.heap.size W W') : RD w bx A c l N A1 c1 s A2 c2 r A3 c3 h zs W' :=
  ⟨q.x.below (by simp) hb, q.o.below hb, q.z.below hz hb, q.cur.below hb, q.cd.keep (fun b _ h => hb.block b (by have := q.b.size; omega)) hb.size, Below.on' q.b hb, q.hx⟩
theorem RD.more (q : RD w bx A c l N A1 c1 s A2 c2 r A3 c3 h zs W) (hM : N ≤ M) : RD w bx A c l M A1 c1 s A2 c2 r A3 c3 h zs W := ⟨q.x, q.o, q.z, q.cur.more hM, q.cd, q.b, q.hx⟩
theorem RD.store {z0 z1 z2 : Value} (q : RD w bx A c l N A1 c1 s A2 c2 r A3 c3 h [z0, z1, z2] W) : RD w bx A c l N A1 c1 s A2 c2 r A3 c3 h [.slice A1 s.length c1, .slice A2 r.length c2, .slice A3 h.length c3] (((W.setCell ⟨w.heap.size, 0, none⟩ (.slice A1 s.length c1)).setCell ⟨w.heap.size, 1, none⟩ (.slice A2 r.length c2)).setCell ⟨w.heap.size, 2, none⟩ (.slice A3 h.length c3)) :=
  have hF : Fr w.heap.size (w.heap.size + 1) W (((W.setCell ⟨w.heap.size, 0, none⟩ (.slice A1 s.length c1)).setCell ⟨w.heap.size, 1, none⟩ (.slice A2 r.length c2)).setCell ⟨w.heap.size, 2, none⟩ (.slice A3 h.length c3)) := ((((Fr.refl w.heap.size (w.heap.size + 1) W).setCell (p := ⟨w.heap.size, 0, none⟩) ⟨Nat.le_refl _, Nat.lt_succ_self _⟩ _).setCell (p := ⟨w.heap.size, 1, none⟩) ⟨Nat.le_refl _, Nat.lt_succ_self _⟩ _).setCell (p := ⟨w.heap.size, 2, none⟩) ⟨Nat.le_refl _, Nat.lt_succ_self _⟩ _)
  ⟨q.x.fr hF (by simp) (.inr (by have := q.hx; omega)), q.o.far hF (by omega), ((q.z.put (i := 0) rfl _).put (i := 1) rfl _).put (i := 2) rfl _, q.cur.away hF (Nat.lt_succ_self _) q.cd, q.cd.keep (fun b _ hb => hF.block b (by have := q.b.size; omega) (by omega)) hF.size, q.b.trans (hF.below (B := w.heap.size) (Nat.le_refl _) q.b.size), q.hx⟩
end
end Go.Proofs.YtjmjilkpckbpeaaGreatDoor

/- The Draw functions over ends: what they return, and that older blocks stay. No conditions. -/
import Derived.Test.YtjmjilkpckbpeaaGreatDoorDrwE
import Derived.Test.YtjmjilkpckbpeaaGreatDoorDrwO
import Derived.Test.YtjmjilkpckbpeaaGreatDoorByt
namespace Go.Proofs.YtjmjilkpckbpeaaGreatDoor
open Go.RowKit

/-- Drawn ends: five lists that can be read, in the blocks from base to hi. -/
structure EH (base hi : Nat) (W : World) (A1 : Option Addr) (c1 : Nat) (f : List App) (A2 : Option Addr) (c2 : Nat) (n : List App) (A3 : Option Addr) (c3 : Nat) (s : List Msg) (A4 : Option Addr) (c4 : Nat) (r : List Msg) (A5 : Option Addr) (c5 : Nat) (h : List Msg) : Prop where
  ef : EF n.length 100 f n s r h
  nl : n.length ≤ 12
  k3 : s.length ≤ c3
  k4 : r.length ≤ c4
  k5 : h.length ≤ c5
  hh : hi ≤ W.heap.size
  S1 : Apps W base hi A1 f
  S2 : Apps W base hi A2 n
  S3 : Msgs W base hi A3 s
  S4 : Msgs W base hi A4 r
  S5 : Msgs W base hi A5 h
section
variable {W W' : World} {base b0 hi hi' : Nat} {A1 : Option Addr} {c1 : Nat} {f : List App} {A2 : Option Addr} {c2 : Nat} {n : List App} {A3 : Option Addr} {c3 : Nat} {s : List Msg} {A4 : Option Addr} {c4 : Nat} {r : List Msg} {A5 : Option Addr} {c5 : Nat} {h : List Msg}
theorem ED.eh (o : ED base W A1 c1 f A2 c2 n A3 c3 s A4 c4 r A5 c5 h) : EH base W.heap.size W A1 c1 f A2 c2 n A3 c3 s A4 c4 r A5 c5 h := ⟨o.ef, o.nl, o.k3, o.k4, o.k5, Nat.le_refl _, o.S1, o.S2, o.S3, o.S4, o.S5⟩
theorem EH.ed (o : EH base hi W A1 c1 f A2 c2 n A3 c3 s A4 c4 r A5 c5 h) : ED base W A1 c1 f A2 c2 n A3 c3 s A4 c4 r A5 c5 h := ⟨o.ef, o.nl, o.k3, o.k4, o.k5, o.S1.mono (Nat.le_refl _) o.hh (Nat.le_refl _), o.S2.mono (Nat.le_refl _) o.hh (Nat.le_refl _), o.S3.mono (Nat.le_refl _) o.hh (Nat.le_refl _), o.S4.mono (Nat.le_refl _) o.hh (Nat.le_refl _), o.S5.mono (Nat.le_refl _) o.hh (Nat.le_refl _)⟩
theorem EH.fr {p q : Nat} (o : EH base hi W A1 c1 f A2 c2 n A3 c3 s A4 c4 r A5 c5 h) (hF : Fr p q W W') (hd : hi ≤ p ∨ q ≤ base) : EH base hi W' A1 c1 f A2 c2 n A3 c3 s A4 c4 r A5 c5 h :=
  ⟨o.ef, o.nl, o.k3, o.k4, o.k5, Nat.le_trans o.hh hF.size, o.S1.fr hF hd, o.S2.fr hF hd, o.S3.fr hF hd, o.S4.fr hF hd, o.S5.fr hF hd⟩
theorem EH.below (o : EH base hi W A1 c1 f A2 c2 n A3 c3 s A4 c4 r A5 c5 h) (hb : Below W.heap.size W W') : EH base hi W' A1 c1 f A2 c2 n A3 c3 s A4 c4 r A5 c5 h :=
  ⟨o.ef, o.nl, o.k3, o.k4, o.k5, Nat.le_trans o.hh hb.size, o.S1.below hb, o.S2.below hb, o.S3.below hb, o.S4.below hb, o.S5.below hb⟩
theorem EH.ea (o : EH base hi W A1 c1 f A2 c2 n A3 c3 s A4 c4 r A5 c5 h) : EA W A1 c1 f A2 c2 n A3 c3 s A4 c4 r A5 c5 h := o.ed.ea
end
/-- A plan being drawn: the ends' box, their lists, the result's box, the cursor. -/
structure RE (w : World) (bx : Nat) (A : Option Addr) (c : Nat) (l : List Int) (N : Nat) (A1 : Option Addr) (c1 : Nat) (f : List App) (A2 : Option Addr) (c2 : Nat) (n : List App) (A3 : Option Addr) (c3 : Nat) (s : List Msg) (A4 : Option Addr) (c4 : Nat) (r : List Msg) (A5 : Option Addr) (c5 : Nat) (h : List Msg) (zs : List Value) (W : World) : Prop where
  x : BN bx [.slice A1 f.length c1, .slice A2 n.length c2, .slice A3 s.length c3, .slice A4 r.length c4, .slice A5 h.length c5] W
  e : EH (w.heap.size + 2) bx W A1 c1 f A2 c2 n A3 c3 s A4 c4 r A5 c5 h
  z : BN w.heap.size zs W
  cur : Cur (w.heap.size + 1) A c l N W
  cd : Sl byE 1 W 0 w.heap.size A l
  b : Below w.heap.size w W
  hx : w.heap.size + 2 ≤ bx
section
variable {w W W' : World} {bx c N M : Nat} {A : Option Addr} {l : List Int} {A1 : Option Addr} {c1 : Nat} {f : List App} {A2 : Option Addr} {c2 : Nat} {n : List App} {A3 : Option Addr} {c3 : Nat} {s : List Msg} {A4 : Option Addr} {c4 : Nat} {r : List Msg} {A5 : Option Addr} {c5 : Nat} {h : List Msg} {zs : List Value}
theorem RE.lt (q : RE w bx A c l N A1 c1 f A2 c2 n A3 c3 s A4 c4 r A5 c5 h zs W) : bx < W.heap.size := q.x.lt (by simp)
theorem RE.step (q : RE w bx A c l N A1 c1 f A2 c2 n A3 c3 s A4 c4 r A5 c5 h zs W) (hz : zs ≠ []) (hF : Fr (w.heap.size + 1) (w.heap.size + 1 + 1) W W') (hC : Cur (w.heap.size + 1) A c l M W') : RE w bx A c l M A1 c1 f A2 c2 n A3 c3 s A4 c4 r A5 c5 h zs W' :=
  ⟨q.x.fr hF (by simp) (.inr (by have := q.hx; omega)), q.e.fr hF (.inr (by omega)), q.z.fr hF hz (.inl (by omega)), hC, q.cd.keep (fun b _ hb => hF.block b (by have := q.b.size; omega) (by omega)) hF.size, q.b.trans (hF.below (B := w.heap.size) (by omega) q.b.size), q.hx⟩
theorem RE.below (q : RE w bx A c l N A1 c1 f A2 c2 n A3 c3 s A4 c4 r A5 c5 h zs W) (hz : zs ≠ []) (hb : Below W.heap.size W W') : RE w bx A c l N A1 c1 f A2 c2 n A3 c3 s A4 c4 r A5 c5 h zs W' :=
  ⟨q.x.below (by simp) hb, q.e.below hb, q.z.below hz hb, q.cur.below hb, q.cd.keep (fun b _ h => hb.block b (by have := q.b.size; omega)) hb.size, Below.on' q.b hb, q.hx⟩
theorem RE.more (q : RE w bx A c l N A1 c1 f A2 c2 n A3 c3 s A4 c4 r A5 c5 h zs W) (hM : N ≤ M) : RE w bx A c l M A1 c1 f A2 c2 n A3 c3 s A4 c4 r A5 c5 h zs W := ⟨q.x, q.e, q.z, q.cur.more hM, q.cd, q.b, q.hx⟩
/-- A block of its own behind the ends' box changes. -/
theorem RE.side {g : Nat} (q : RE w bx A c l N A1 c1 f A2 c2 n A3 c3 s A4 c4 r A5 c5 h zs W) (hz : zs ≠ []) (hg : bx < g) (hF : Fr g (g + 1) W W') : RE w bx A c l N A1 c1 f A2 c2 n A3 c3 s A4 c4 r A5 c5 h zs W' := by
  have hx := q.hx
  have hs := q.b.size
  exact ⟨q.x.fr hF (by simp) (.inl hg), q.e.fr hF (.inl (by omega)), q.z.fr hF hz (.inl (by omega)), q.cur.upto (B := w.heap.size + 2) (by omega) (hF.below (by omega) (by have := q.lt; omega)), q.cd.keep (fun b _ hb => hF.block b (by omega) (by omega)) hF.size, q.b.trans (hF.below (B := w.heap.size) (by omega) hs), hx⟩
theorem RE.store {z0 z1 z2 z3 z4 : Value} (q : RE w bx A c l N A1 c1 f A2 c2 n A3 c3 s A4 c4 r A5 c5 h [z0, z1, z2, z3, z4] W) : RE w bx A c l N A1 c1 f A2 c2 n A3 c3 s A4 c4 r A5 c5 h [.slice A1 f.length c1, .slice A2 n.length c2, .slice A3 s.length c3, .slice A4 r.length c4, .slice A5 h.length c5] (((((W.setCell ⟨w.heap.size, 0, none⟩ (.slice A1 f.length c1)).setCell ⟨w.heap.size, 1, none⟩ (.slice A2 n.length c2)).setCell ⟨w.heap.size, 2, none⟩ (.slice A3 s.length c3)).setCell ⟨w.heap.size, 3, none⟩ (.slice A4 r.length c4)).setCell ⟨w.heap.size, 4, none⟩ (.slice A5 h.length c5)) :=
  have hF : Fr w.heap.size (w.heap.size + 1) W (((((W.setCell ⟨w.heap.size, 0, none⟩ (.slice A1 f.length c1)).setCell ⟨w.heap.size, 1, none⟩ (.slice A2 n.length c2)).setCell ⟨w.heap.size, 2, none⟩ (.slice A3 s.length c3)).setCell ⟨w.heap.size, 3, none⟩ (.slice A4 r.length c4)).setCell ⟨w.heap.size, 4, none⟩ (.slice A5 h.length c5)) := ((((((Fr.refl w.heap.size (w.heap.size + 1) W).setCell (p := ⟨w.heap.size, 0, none⟩) ⟨Nat.le_refl _, Nat.lt_succ_self _⟩ (.slice A1 f.length c1)).setCell (p := ⟨w.heap.size, 1, none⟩) ⟨Nat.le_refl _, Nat.lt_succ_self _⟩ (.slice A2 n.length c2)).setCell (p := ⟨w.heap.size, 2, none⟩) ⟨Nat.le_refl _, Nat.lt_succ_self _⟩ (.slice A3 s.length c3)).setCell (p := ⟨w.heap.size, 3, none⟩) ⟨Nat.le_refl _, Nat.lt_succ_self _⟩ (.slice A4 r.length c4)).setCell (p := ⟨w.heap.size, 4, none⟩) ⟨Nat.le_refl _, Nat.lt_succ_self _⟩ (.slice A5 h.length c5))
  ⟨q.x.fr hF (by simp) (.inr (by have := q.hx; omega)), q.e.fr hF (.inr (by omega)), (((((q.z.put (i := 0) rfl (.slice A1 f.length c1)).put (i := 1) rfl (.slice A2 n.length c2)).put (i := 2) rfl (.slice A3 s.length c3)).put (i := 3) rfl (.slice A4 r.length c4)).put (i := 4) rfl (.slice A5 h.length c5)), q.cur.away hF (Nat.lt_succ_self _) q.cd, q.cd.keep (fun b _ hb => hF.block b (by have := q.b.size; omega) (by omega)) hF.size, q.b.trans (hF.below (B := w.heap.size) (Nat.le_refl _) q.b.size), q.hx⟩
end
end Go.Proofs.YtjmjilkpckbpeaaGreatDoor

/- Ends in memory: what calls ask of them and leave; marking them. Conditions: at most 2^20 in each list. -/
import Derived.Test.YtianabfehonliaaDoorEndTo
import Derived.Test.YtianabfehonliaaDoorChanC
namespace Go.Proofs.YtianabfehonliaaDoor
open Go.RowKit

/-- Ends whose five lists can be read. -/
structure EA (w : World) (Af : Option Addr) (cf : Nat) (f : List App) (An : Option Addr) (cn : Nat) (n : List App) (As : Option Addr) (cs : Nat) (s : List Msg) (Ar : Option Addr) (cr : Nat) (r : List Msg) (Ah : Option Addr) (ch : Nat) (h : List Msg) : Prop where
  lf : f.length ≤ 1048576
  mf : ∀ y ∈ f, y.nm.size ≤ 1048576
  Sf : Apps w 0 w.heap.size Af f
  ln : n.length ≤ 1048576
  mn : ∀ y ∈ n, y.nm.size ≤ 1048576
  Sn : Apps w 0 w.heap.size An n
  ls : s.length ≤ 1048576
  ms : ∀ y ∈ s, y.f.size ≤ 1048576 ∧ y.b.size ≤ 1048576
  Ss : Msgs w 0 w.heap.size As s
  ks : s.length ≤ cs
  lr : r.length ≤ 1048576
  mr : ∀ y ∈ r, y.f.size ≤ 1048576 ∧ y.b.size ≤ 1048576
  Sr : Msgs w 0 w.heap.size Ar r
  kr : r.length ≤ cr
  lh : h.length ≤ 1048576
  mh : ∀ y ∈ h, y.f.size ≤ 1048576 ∧ y.b.size ≤ 1048576
  Sh : Msgs w 0 w.heap.size Ah h
  kh : h.length ≤ ch
theorem EA.below {w w' : World} {Af : Option Addr} {cf : Nat} {f : List App} {An : Option Addr} {cn : Nat} {n : List App} {As : Option Addr} {cs : Nat} {s : List Msg} {Ar : Option Addr} {cr : Nat} {r : List Msg} {Ah : Option Addr} {ch : Nat} {h : List Msg} (a : EA w Af cf f An cn n As cs s Ar cr r Ah ch h) (hb : Below w.heap.size w w') : EA w' Af cf f An cn n As cs s Ar cr r Ah ch h :=
  ⟨a.lf, a.mf, (a.Sf.below hb).all, a.ln, a.mn, (a.Sn.below hb).all, a.ls, a.ms, (a.Ss.below hb).all, a.ks, a.lr, a.mr, (a.Sr.below hb).all, a.kr, a.lh, a.mh, (a.Sh.below hb).all, a.kh⟩
/-- Five lists in intervals of blocks from base on, apart from each other. -/
def IntE (w : World) (base : Nat) (A1 : Option Addr) (f : List App) (A2 : Option Addr) (n : List App) (A3 : Option Addr) (s : List Msg) (A4 : Option Addr) (r : List Msg) (A5 : Option Addr) (h : List Msg) : Prop :=
  ∃ l1 h1 l2 h2 lc hc l3 h3 l4 h4 l5 h5, Apps w l1 h1 A1 f ∧ Apps w l2 h2 A2 n ∧ Msgs w l3 h3 A3 s ∧ Msgs w l4 h4 A4 r ∧ Msgs w l5 h5 A5 h ∧ (base ≤ l1 ∧ l1 ≤ h1 ∧ h1 ≤ w.heap.size) ∧ (base ≤ l2 ∧ l2 ≤ h2 ∧ h2 ≤ w.heap.size) ∧ (base ≤ lc ∧ lc ≤ hc ∧ hc ≤ w.heap.size) ∧ (lc ≤ l3 ∧ l3 ≤ h3 ∧ h3 ≤ hc) ∧ (lc ≤ l4 ∧ l4 ≤ h4 ∧ h4 ≤ hc) ∧ (lc ≤ l5 ∧ l5 ≤ h5 ∧ h5 ≤ hc) ∧ (h1 ≤ l2 ∨ h2 ≤ l1) ∧ (h1 ≤ lc ∨ hc ≤ l1) ∧ (h2 ≤ lc ∨ hc ≤ l2) ∧ (h3 ≤ l4 ∨ h4 ≤ l3) ∧ (h3 ≤ l5 ∨ h5 ≤ l3) ∧ (h4 ≤ l5 ∨ h5 ≤ l4)
/-- The call returned ends in new memory, and a bool. -/
def REN (w : World) (f n : List App) (s r h : List Msg) (B : Bool) (e : Ending) (w' : World) : Prop :=
  ∃ A1 c1 A2 c2 A3 c3 A4 c4 A5 c5, e = .returned (.tuple #[.agg #[.slice A1 f.length c1, .slice A2 n.length c2, .slice A3 s.length c3, .slice A4 r.length c4, .slice A5 h.length c5], .bool B]) ∧ IntE w' w.heap.size A1 f A2 n A3 s A4 r A5 h ∧ Below w.heap.size w w'
theorem IntE.nil_ {w : World} {base : Nat} (hb : base ≤ w.heap.size) : IntE w base none [] none [] none [] none [] none [] :=
  ⟨base, base, base, base, base, base, base, base, base, base, base, base, Sl.nil_, Sl.nil_, Sl.nil_, Sl.nil_, Sl.nil_, ⟨Nat.le_refl _, Nat.le_refl _, hb⟩, ⟨Nat.le_refl _, Nat.le_refl _, hb⟩, ⟨Nat.le_refl _, Nat.le_refl _, hb⟩, ⟨Nat.le_refl _, Nat.le_refl _, Nat.le_refl _⟩, ⟨Nat.le_refl _, Nat.le_refl _, Nat.le_refl _⟩, ⟨Nat.le_refl _, Nat.le_refl _, Nat.le_refl _⟩, .inl (Nat.le_refl _), .inl (Nat.le_refl _), .inl (Nat.le_refl _), .inl (Nat.le_refl _), .inl (Nat.le_refl _), .inl (Nat.le_refl _)⟩
/-- The fleets lie below the channel. -/
theorem IntE.of_c {w : World} {base m1 m2 : Nat} {A1 A2 A3 A4 A5 : Option Addr} {f n : List App} {s r h : List Msg} (h1 : Apps w base m1 A1 f) (h2 : Apps w m1 m2 A2 n) (hc : IntC w m2 A3 s A4 r A5 h) (k1 : base ≤ m1) (k2 : m1 ≤ m2) (k3 : m2 ≤ w.heap.size) : IntE w base A1 f A2 n A3 s A4 r A5 h := by
  obtain ⟨l3, h3, l4, h4, l5, h5, S3, S4, S5, B3, B4, B5, e34, e35, e45⟩ := hc
  exact ⟨base, m1, m1, m2, m2, w.heap.size, l3, h3, l4, h4, l5, h5, h1, h2, S3, S4, S5, ⟨by omega, by omega, by omega⟩, ⟨by omega, by omega, by omega⟩, ⟨by omega, by omega, by omega⟩, B3, B4, B5, by omega, by omega, by omega, e34, e35, e45⟩
/-- The fleets lie above the channel. -/
theorem IntE.of_a {w w' : World} {base m1 m2 : Nat} {A1 A2 A3 A4 A5 : Option Addr} {f n : List App} {s r h : List Msg} (h1 : Apps w' w.heap.size m1 A1 f) (h2 : Apps w' m1 m2 A2 n) (hc : IntC w base A3 s A4 r A5 h) (hb : Below w.heap.size w w') (k0 : base ≤ w.heap.size) (k1 : w.heap.size ≤ m1) (k2 : m1 ≤ m2) (k3 : m2 ≤ w'.heap.size) : IntE w' base A1 f A2 n A3 s A4 r A5 h := by
  obtain ⟨l3, h3, l4, h4, l5, h5, S3, S4, S5, B3, B4, B5, e34, e35, e45⟩ := hc
  have := hb.size
  exact ⟨w.heap.size, m1, m1, m2, base, w.heap.size, l3, h3, l4, h4, l5, h5, h1, h2, S3.below hb, S4.below hb, S5.below hb, ⟨by omega, by omega, by omega⟩, ⟨by omega, by omega, by omega⟩, ⟨by omega, by omega, by omega⟩, B3, B4, B5, by omega, by omega, by omega, e34, e35, e45⟩
theorem IntE.below {w w' : World} {base : Nat} {A1 A2 A3 A4 A5 : Option Addr} {f n : List App} {s r h : List Msg} (o : IntE w base A1 f A2 n A3 s A4 r A5 h) (hb : Below w.heap.size w w') : IntE w' base A1 f A2 n A3 s A4 r A5 h := by
  obtain ⟨l1, h1, l2, h2, lc, hc, l3, h3, l4, h4, l5, h5, S1, S2, S3, S4, S5, B1, B2, BC, B3, B4, B5, d⟩ := o
  have := hb.size
  exact ⟨l1, h1, l2, h2, lc, hc, l3, h3, l4, h4, l5, h5, S1.below hb, S2.below hb, S3.below hb, S4.below hb, S5.below hb, ⟨B1.1, B1.2.1, by omega⟩, ⟨B2.1, B2.2.1, by omega⟩, ⟨BC.1, BC.2.1, by omega⟩, B3, B4, B5, d⟩
/-- Cells below the base may change. -/
theorem IntE.fr {w w' : World} {base lo hi : Nat} {A1 A2 A3 A4 A5 : Option Addr} {f n : List App} {s r h : List Msg} (o : IntE w base A1 f A2 n A3 s A4 r A5 h) (hF : Fr lo hi w w') (hd : hi ≤ base) : IntE w' base A1 f A2 n A3 s A4 r A5 h := by
  obtain ⟨l1, h1, l2, h2, lc, hc, l3, h3, l4, h4, l5, h5, S1, S2, S3, S4, S5, B1, B2, BC, B3, B4, B5, d⟩ := o
  have := hF.size
  exact ⟨l1, h1, l2, h2, lc, hc, l3, h3, l4, h4, l5, h5, S1.fr hF (by omega), S2.fr hF (by omega), S3.fr hF (by omega), S4.fr hF (by omega), S5.fr hF (by omega), ⟨B1.1, B1.2.1, by omega⟩, ⟨B2.1, B2.2.1, by omega⟩, ⟨BC.1, BC.2.1, by omega⟩, B3, B4, B5, d⟩
theorem IntE.lift {w : World} {base b0 : Nat} {A1 A2 A3 A4 A5 : Option Addr} {f n : List App} {s r h : List Msg} (o : IntE w base A1 f A2 n A3 s A4 r A5 h) (hb : b0 ≤ base) : IntE w b0 A1 f A2 n A3 s A4 r A5 h := by
  obtain ⟨l1, h1, l2, h2, lc, hc, l3, h3, l4, h4, l5, h5, S1, S2, S3, S4, S5, B1, B2, BC, d⟩ := o
  exact ⟨l1, h1, l2, h2, lc, hc, l3, h3, l4, h4, l5, h5, S1, S2, S3, S4, S5, ⟨by omega, B1.2⟩, ⟨by omega, B2.2⟩, ⟨by omega, BC.2⟩, d⟩
end Go.Proofs.YtianabfehonliaaDoor

/- Several texts of this seat, one behind the other. Ends in memory: what calls ask of them and leave; marking them. Conditions: at most 2^20 in each list. Ends copied: by the reference with another channel, by the program whole. Condition: at most 2^20 in each list. ReceiveAt, ReceiveAll, RunStates on both sides. Conditions: at most 2^20 in each list, texts of at most 2^20; the listed variables as Said has them. -/
import Derived.Test.YtjmjilkpckbpeaaGreatDoorLF
import Derived.Test.YtjmjilkpckbpeaaGreatDoorLD
import Derived.Test.YtjmjilkpckbpeaaGreatDoorLB
import Derived.Test.YtjmjilkpckbpeaaGreatDoorLE
import Derived.Test.YtjmjilkpckbpeaaGreatDoorLP
namespace Go.Proofs.YtjmjilkpckbpeaaGreatDoor
open Go.RowKit

/-- Ends whose five lists can be read. -/
structure EA (w : World) (Af : Option Addr) (cf : Nat) (f : List App) (An : Option Addr) (cn : Nat) (n : List App) (As : Option Addr) (cs : Nat) (s : List Msg) (Ar : Option Addr) (cr : Nat) (r : List Msg) (Ah : Option Addr) (ch : Nat) (h : List Msg) : Prop where
  lf : f.length ≤ 1048576
  mf : ∀ y ∈ f, y.nm.size ≤ 1048576
  Sf : Apps w 0 w.heap.size Af f
  ln : n.length ≤ 1048576
  mn : ∀ y ∈ n, y.nm.size ≤ 1048576
  Sn : Apps w 0 w.heap.size An n
  ls : s.length ≤ 1048576
  ms : ∀ y ∈ s, y.f.size ≤ 1048576 ∧ y.b.size ≤ 1048576
  Ss : Msgs w 0 w.heap.size As s
  ks : s.length ≤ cs
  lr : r.length ≤ 1048576
  mr : ∀ y ∈ r, y.f.size ≤ 1048576 ∧ y.b.size ≤ 1048576
  Sr : Msgs w 0 w.heap.size Ar r
  kr : r.length ≤ cr
  lh : h.length ≤ 1048576
  mh : ∀ y ∈ h, y.f.size ≤ 1048576 ∧ y.b.size ≤ 1048576
  Sh : Msgs w 0 w.heap.size Ah h
  kh : h.length ≤ ch
theorem EA.below {w w' : World} {Af : Option Addr} {cf : Nat} {f : List App} {An : Option Addr} {cn : Nat} {n : List App} {As : Option Addr} {cs : Nat} {s : List Msg} {Ar : Option Addr} {cr : Nat} {r : List Msg} {Ah : Option Addr} {ch : Nat} {h : List Msg} (a : EA w Af cf f An cn n As cs s Ar cr r Ah ch h) (hb : Below w.heap.size w w') : EA w' Af cf f An cn n As cs s Ar cr r Ah ch h :=
  ⟨a.lf, a.mf, (a.Sf.below hb).all, a.ln, a.mn, (a.Sn.below hb).all, a.ls, a.ms, (a.Ss.below hb).all, a.ks, a.lr, a.mr, (a.Sr.below hb).all, a.kr, a.lh, a.mh, (a.Sh.below hb).all, a.kh⟩
/-- Five lists in intervals of blocks from base on, apart from each other. -/
def IntE (w : World) (base : Nat) (A1 : Option Addr) (f : List App) (A2 : Option Addr) (n : List App) (A3 : Option Addr) (s : List Msg) (A4 : Option Addr) (r : List Msg) (A5 : Option Addr) (h : List Msg) : Prop :=
  ∃ l1 h1 l2 h2 lc hc l3 h3 l4 h4 l5 h5, Apps w l1 h1 A1 f ∧ Apps w l2 h2 A2 n ∧ Msgs w l3 h3 A3 s ∧ Msgs w l4 h4 A4 r ∧ Msgs w l5 h5 A5 h ∧ (base ≤ l1 ∧ l1 ≤ h1 ∧ h1 ≤ w.heap.size) ∧ (base ≤ l2 ∧ l2 ≤ h2 ∧ h2 ≤ w.heap.size) ∧ (base ≤ lc ∧ lc ≤ hc ∧ hc ≤ w.heap.size) ∧ (lc ≤ l3 ∧ l3 ≤ h3 ∧ h3 ≤ hc) ∧ (lc ≤ l4 ∧ l4 ≤ h4 ∧ h4 ≤ hc) ∧ (lc ≤ l5 ∧ l5 ≤ h5 ∧ h5 ≤ hc) ∧ (h1 ≤ l2 ∨ h2 ≤ l1) ∧ (h1 ≤ lc ∨ hc ≤ l1) ∧ (h2 ≤ lc ∨ hc ≤ l2) ∧ (h3 ≤ l4 ∨ h4 ≤ l3) ∧ (h3 ≤ l5 ∨ h5 ≤ l3) ∧ (h4 ≤ l5 ∨ h5 ≤ l4)
/-- The call returned ends in new memory, and a bool. -/
def REN (w : World) (f n : List App) (s r h : List Msg) (B : Bool) (e : Ending) (w' : World) : Prop :=
  ∃ A1 c1 A2 c2 A3 c3 A4 c4 A5 c5, e = .returned (.tuple #[.agg #[.slice A1 f.length c1, .slice A2 n.length c2, .slice A3 s.length c3, .slice A4 r.length c4, .slice A5 h.length c5], .bool B]) ∧ IntE w' w.heap.size A1 f A2 n A3 s A4 r A5 h ∧ Below w.heap.size w w'
theorem IntE.nil_ {w : World} {base : Nat} (hb : base ≤ w.heap.size) : IntE w base none [] none [] none [] none [] none [] :=
  ⟨base, base, base, base, base, base, base, base, base, base, base, base, Sl.nil_, Sl.nil_, Sl.nil_, Sl.nil_, Sl.nil_, ⟨Nat.le_refl _, Nat.le_refl _, hb⟩, ⟨Nat.le_refl _, Nat.le_refl _, hb⟩, ⟨Nat.le_refl _, Nat.le_refl _, hb⟩, ⟨Nat.le_refl _, Nat.le_refl _, Nat.le_refl _⟩, ⟨Nat.le_refl _, Nat.le_refl _, Nat.le_refl _⟩, ⟨Nat.le_refl _, Nat.le_refl _, Nat.le_refl _⟩, .inl (Nat.le_refl _), .inl (Nat.le_refl _), .inl (Nat.le_refl _), .inl (Nat.le_refl _), .inl (Nat.le_refl _), .inl (Nat.le_refl _)⟩
/-- The fleets lie below the channel. -/
theorem IntE.of_c {w : World} {base m1 m2 : Nat} {A1 A2 A3 A4 A5 : Option Addr} {f n : List App} {s r h : List Msg} (h1 : Apps w base m1 A1 f) (h2 : Apps w m1 m2 A2 n) (hc : IntC w m2 A3 s A4 r A5 h) (k1 : base ≤ m1) (k2 : m1 ≤ m2) (k3 : m2 ≤ w.heap.size) : IntE w base A1 f A2 n A3 s A4 r A5 h := by
  obtain ⟨l3, h3, l4, h4, l5, h5, S3, S4, S5, B3, B4, B5, e34, e35, e45⟩ := hc
  exact ⟨base, m1, m1, m2, m2, w.heap.size, l3, h3, l4, h4, l5, h5, h1, h2, S3, S4, S5, ⟨by omega, by omega, by omega⟩, ⟨by omega, by omega, by omega⟩, ⟨by omega, by omega, by omega⟩, B3, B4, B5, by omega, by omega, by omega, e34, e35, e45⟩
/-- The fleets lie above the channel. -/
theorem IntE.of_a {w w' : World} {base m1 m2 : Nat} {A1 A2 A3 A4 A5 : Option Addr} {f n : List App} {s r h : List Msg} (h1 : Apps w' w.heap.size m1 A1 f) (h2 : Apps w' m1 m2 A2 n) (hc : IntC w base A3 s A4 r A5 h) (hb : Below w.heap.size w w') (k0 : base ≤ w.heap.size) (k1 : w.heap.size ≤ m1) (k2 : m1 ≤ m2) (k3 : m2 ≤ w'.heap.size) : IntE w' base A1 f A2 n A3 s A4 r A5 h := by
  obtain ⟨l3, h3, l4, h4, l5, h5, S3, S4, S5, B3, B4, B5, e34, e35, e45⟩ := hc
  have := hb.size
  exact ⟨w.heap.size, m1, m1, m2, base, w.heap.size, l3, h3, l4, h4, l5, h5, h1, h2, S3.below hb, S4.below hb, S5.below hb, ⟨by omega, by omega, by omega⟩, ⟨by omega, by omega, by omega⟩, ⟨by omega, by omega, by omega⟩, B3, B4, B5, by omega, by omega, by omega, e34, e35, e45⟩
theorem IntE.below {w w' : World} {base : Nat} {A1 A2 A3 A4 A5 : Option Addr} {f n : List App} {s r h : List Msg} (o : IntE w base A1 f A2 n A3 s A4 r A5 h) (hb : Below w.heap.size w w') : IntE w' base A1 f A2 n A3 s A4 r A5 h := by
  obtain ⟨l1, h1, l2, h2, lc, hc, l3, h3, l4, h4, l5, h5, S1, S2, S3, S4, S5, B1, B2, BC, B3, B4, B5, d⟩ := o
  have := hb.size
  exact ⟨l1, h1, l2, h2, lc, hc, l3, h3, l4, h4, l5, h5, S1.below hb, S2.below hb, S3.below hb, S4.below hb, S5.below hb, ⟨B1.1, B1.2.1, by omega⟩, ⟨B2.1, B2.2.1, by omega⟩, ⟨BC.1, BC.2.1, by omega⟩, B3, B4, B5, d⟩
/-- Cells below the base may change. -/
theorem IntE.fr {w w' : World} {base lo hi : Nat} {A1 A2 A3 A4 A5 : Option Addr} {f n : List App} {s r h : List Msg} (o : IntE w base A1 f A2 n A3 s A4 r A5 h) (hF : Fr lo hi w w') (hd : hi ≤ base) : IntE w' base A1 f A2 n A3 s A4 r A5 h := by
  obtain ⟨l1, h1, l2, h2, lc, hc, l3, h3, l4, h4, l5, h5, S1, S2, S3, S4, S5, B1, B2, BC, B3, B4, B5, d⟩ := o
  have := hF.size
  exact ⟨l1, h1, l2, h2, lc, hc, l3, h3, l4, h4, l5, h5, S1.fr hF (by omega), S2.fr hF (by omega), S3.fr hF (by omega), S4.fr hF (by omega), S5.fr hF (by omega), ⟨B1.1, B1.2.1, by omega⟩, ⟨B2.1, B2.2.1, by omega⟩, ⟨BC.1, BC.2.1, by omega⟩, B3, B4, B5, d⟩
theorem IntE.lift {w : World} {base b0 : Nat} {A1 A2 A3 A4 A5 : Option Addr} {f n : List App} {s r h : List Msg} (o : IntE w base A1 f A2 n A3 s A4 r A5 h) (hb : b0 ≤ base) : IntE w b0 A1 f A2 n A3 s A4 r A5 h := by
  obtain ⟨l1, h1, l2, h2, lc, hc, l3, h3, l4, h4, l5, h5, S1, S2, S3, S4, S5, B1, B2, BC, d⟩ := o
  exact ⟨l1, h1, l2, h2, lc, hc, l3, h3, l4, h4, l5, h5, S1, S2, S3, S4, S5, ⟨by omega, B1.2⟩, ⟨by omega, B2.2⟩, ⟨by omega, BC.2⟩, d⟩
end Go.Proofs.YtjmjilkpckbpeaaGreatDoor
namespace Go.Proofs.YtjmjilkpckbpeaaGreatDoor
open Go.RowKit

section
variable {b : Nat} {vs : List Value} {X X' : World}
theorem BN.below (a : BN b vs X) (h : vs ≠ []) (hb : Below X.heap.size X X') : BN b vs X' := a.upto (a.lt h) hb
theorem BN.alloc (a : BN b vs X) (h : vs ≠ []) (o : Obj) : BN b vs (X.alloc o) := a.below h ((Below.refl _ _).alloc (Nat.le_refl _) o)
theorem BN.drew (a : BN b vs X) : BN b vs X.drew := a
end
/-- Two fleets in intervals of blocks from base on, apart from each other. -/
def IntF (w : World) (base : Nat) (A1 : Option Addr) (f : List App) (A2 : Option Addr) (n : List App) : Prop :=
  ∃ l1 h1 l2 h2, Apps w l1 h1 A1 f ∧ Apps w l2 h2 A2 n ∧ (base ≤ l1 ∧ l1 ≤ h1 ∧ h1 ≤ w.heap.size) ∧ (base ≤ l2 ∧ l2 ≤ h2 ∧ h2 ≤ w.heap.size) ∧ (h1 ≤ l2 ∨ h2 ≤ l1)
/-- The channel lies below the fleets. -/
theorem IntE.of_f {w w' : World} {base : Nat} {A1 A2 A3 A4 A5 : Option Addr} {f n : List App} {s r h : List Msg} (hF : IntF w' w.heap.size A1 f A2 n) (hc : IntC w base A3 s A4 r A5 h) (hb : Below w.heap.size w w') (k0 : base ≤ w.heap.size) : IntE w' base A1 f A2 n A3 s A4 r A5 h := by
  obtain ⟨l1, h1, l2, h2, S1, S2, B1, B2, d⟩ := hF
  obtain ⟨l3, h3, l4, h4, l5, h5, S3, S4, S5, B3, B4, B5, e34, e35, e45⟩ := hc
  have := hb.size
  exact ⟨l1, h1, l2, h2, base, w.heap.size, l3, h3, l4, h4, l5, h5, S1, S2, S3.below hb, S4.below hb, S5.below hb, ⟨by omega, by omega, by omega⟩, ⟨by omega, by omega, by omega⟩, ⟨by omega, by omega, by omega⟩, B3, B4, B5, d, by omega, by omega, e34, e35, e45⟩
/-- The fleets lie below the channel's rows. -/
theorem IntE.of_o {w : World} {base m1 m2 : Nat} {A1 A2 A3 A4 A5 : Option Addr} {c3 c4 c5 : Nat} {f n : List App} {s r h : List Msg} (h1 : Apps w base m1 A1 f) (h2 : Apps w m1 m2 A2 n) (ho : OwnC w m2 A3 c3 s A4 c4 r A5 c5 h) (k1 : base ≤ m1) (k2 : m1 ≤ m2) (k3 : m2 ≤ w.heap.size) : IntE w base A1 f A2 n A3 s A4 r A5 h :=
  IntE.of_c h1 h2 (ho.ints k3) k1 k2 k3
theorem Sl.upto {α : Type} {E : α → List Value} {k : Nat} {w w' : World} {lo hi m : Nat} {A : Option Addr} {l : List α} (h : Sl E k w lo hi A l) (hb : Below m w w') (hm : hi ≤ m) : Sl E k w' lo hi A l := h.keep (fun b _ h2 => hb.block b (by omega)) hb.size
/-- Two fleets in rows of a call's own. -/
structure OwnF (w : World) (base : Nat) (A1 : Option Addr) (c1 : Nat) (f : List App) (A2 : Option Addr) (c2 : Nat) (n : List App) : Prop where
  o1 : Own App.cells 5 73 w base A1 c1 f
  o2 : Own App.cells 5 73 w base A2 c2 n
  d : Dis A1 A2
section
variable {w w' : World} {base c1 c2 : Nat} {A1 A2 : Option Addr} {f n : List App}
theorem OwnF.push1 (o : OwnF w base A1 c1 f A2 c2 n) {A' : Option Addr} {c' : Nat} {l' : List App} (hO : Own App.cells 5 73 w' base A' c' l') (hk : But A1 w w') (hd : ∀ A, Dis A1 A → (∀ a, A = some a → a.block < w.heap.size) → Dis A' A) : OwnF w' base A' c' l' A2 c2 n :=
  ⟨hO, o.o2.but hk o.d, hd A2 o.d o.o2.lt⟩
theorem OwnF.push2 (o : OwnF w base A1 c1 f A2 c2 n) {A' : Option Addr} {c' : Nat} {l' : List App} (hO : Own App.cells 5 73 w' base A' c' l') (hk : But A2 w w') (hd : ∀ A, Dis A2 A → (∀ a, A = some a → a.block < w.heap.size) → Dis A' A) : OwnF w' base A1 c1 f A' c' l' :=
  ⟨o.o1.but hk o.d.symm, hO, (hd A1 o.d.symm o.o1.lt).symm⟩
theorem OwnF.made1 (o : OwnF w base none 0 [] A2 c2 n) {A' : Option Addr} {c' : Nat} {l' : List App} (hO : Own App.cells 5 73 w' w.heap.size A' c' l') (hk : Below w.heap.size w w') (hb : base ≤ w.heap.size) : OwnF w' base A' c' l' A2 c2 n :=
  o.push1 (hO.lift hb) (fun b h _ => hk.block b h) (fun _ _ hlt a a2 e e2 q => by have := hO.blk a e; have := hlt a2 e2; omega)
theorem OwnF.made2 (o : OwnF w base A1 c1 f none 0 []) {A' : Option Addr} {c' : Nat} {l' : List App} (hO : Own App.cells 5 73 w' w.heap.size A' c' l') (hk : Below w.heap.size w w') (hb : base ≤ w.heap.size) : OwnF w' base A1 c1 f A' c' l' :=
  o.push2 (hO.lift hb) (fun b h _ => hk.block b h) (fun _ _ hlt a a2 e e2 q => by have := hO.blk a e; have := hlt a2 e2; omega)
theorem OwnF.ints (o : OwnF w base A1 c1 f A2 c2 n) (hb : base ≤ w.heap.size) : IntF w base A1 f A2 n := by
  obtain ⟨l1, h1, S1, B1, k1, n1⟩ := o.o1.int App.len hb
  obtain ⟨l2, h2, S2, B2, k2, n2⟩ := o.o2.int App.len hb
  refine ⟨l1, h1, l2, h2, S1, S2, B1, B2, ?_⟩
  cases hA : A1 with
  | none => have := n1 hA; omega
  | some a =>
    cases hA' : A2 with
    | none => have := n2 hA'; omega
    | some a' =>
      have := o.d a a' hA hA'
      have := k1 a hA
      have := k2 a' hA'
      omega
theorem OwnF.far (o : OwnF w base A1 c1 f A2 c2 n) {lo hi : Nat} (hk : Fr lo hi w w') (hd : hi ≤ base) : OwnF w' base A1 c1 f A2 c2 n :=
  have k : ∀ b, base ≤ b → b < w.heap.size → w'.heap[b]? = w.heap[b]? := fun b h1 h2 => hk.block b h2 (by omega)
  ⟨o.o1.keep k, o.o2.keep k, o.d⟩
theorem OwnF.lift {b0 : Nat} (o : OwnF w base A1 c1 f A2 c2 n) (hb : b0 ≤ base) : OwnF w b0 A1 c1 f A2 c2 n := ⟨o.o1.lift hb, o.o2.lift hb, o.d⟩
end
/-- One list: no row yet (p = 0), an empty row (p = 1), copied (p = 2). -/
def StaA (p : Nat) (L : List App) (A : Option Addr) (c : Nat) (L' : List App) (u v : Value) : Prop := (p = 0 ∧ A = none ∧ c = 0 ∧ L' = []) ∨ (p = 1 ∧ L' = [] ∧ u = .slice A 0 c) ∨ (p = 2 ∧ L' = L ∧ v = .slice A L.length c)
/-- The call returned new fleets with the given channel. -/
def RF (w : World) (f n : List App) (x1 x2 x3 : Value) (e : Ending) (w' : World) : Prop :=
  ∃ A1 c1 A2 c2, e = .returned (.agg #[.slice A1 f.length c1, .slice A2 n.length c2, x1, x2, x3]) ∧ IntF w' w.heap.size A1 f A2 n ∧ Below w.heap.size w w'
set_option maxRecDepth 100000 in
set_option maxHeartbeats 8000000 in
theorem stWith_any (Af : Option Addr) (cf : Nat) (f : List App) (v1 v2 v3 v4 : Value) (An : Option Addr) (cn : Nat) (n : List App) (B1 : Option Addr) (m1 d1 : Nat) (B2 : Option Addr) (m2 d2 : Nat) (B3 : Option Addr) (m3 d3 : Nat) (w : World) (hlf : f.length ≤ 1048576) (hSf : Apps w 0 w.heap.size Af f) (hln : n.length ≤ 1048576) (hSn : Apps w 0 w.heap.size An n) :
    Calls Tryz.prog 110 #[.agg #[.slice Af f.length cf, v1, v2, v3, v4], .slice An n.length cn, .agg #[.slice B1 m1 d1, .slice B2 m2 d2, .slice B3 m3 d3]] w (RF w f n (.slice B1 m1 d1) (.slice B2 m2 d2) (.slice B3 m3 d3)) := by
  obtain ⟨i0, hi0, hz0, hz1, hz2⟩ := info_parts App.info
  have e1 : (w.alloc (.cells #[.slice Af f.length cf, v1, v2, v3, v4] 52)).heap.size = w.heap.size + 1 := by simp
  have e2 : ((w.alloc (.cells #[.slice Af f.length cf, v1, v2, v3, v4] 52)).alloc (.cells #[.slice B1 m1 d1, .slice B2 m2 d2, .slice B3 m3 d3] 26)).heap.size = w.heap.size + 2 := by simp
  have hX := (((BN.new w #[.slice Af f.length cf, v1, v2, v3, v4] 52 _ rfl).alloc (by simp) (.cells #[.slice B1 m1 d1, .slice B2 m2 d2, .slice B3 m3 d3] 26)).alloc (by simp) (.cells #[.slice none 0 0, .slice none 0 0, .slice none 0 0, .slice none 0 0, .slice none 0 0] 52)).drew
  have hY := ((BN.new (w.alloc (.cells #[.slice Af f.length cf, v1, v2, v3, v4] 52)) #[.slice B1 m1 d1, .slice B2 m2 d2, .slice B3 m3 d3] 26 _ rfl).alloc (by simp) (.cells #[.slice none 0 0, .slice none 0 0, .slice none 0 0, .slice none 0 0, .slice none 0 0] 52)).drew
  have hR := (BN.new ((w.alloc (.cells #[.slice Af f.length cf, v1, v2, v3, v4] 52)).alloc (.cells #[.slice B1 m1 d1, .slice B2 m2 d2, .slice B3 m3 d3] 26)) #[.slice none 0 0, .slice none 0 0, .slice none 0 0, .slice none 0 0, .slice none 0 0] 52 _ rfl).drew
  have hB0 : Below w.heap.size w (((w.alloc (.cells #[.slice Af f.length cf, v1, v2, v3, v4] 52)).alloc (.cells #[.slice B1 m1 d1, .slice B2 m2 d2, .slice B3 m3 d3] 26)).alloc (.cells #[.slice none 0 0, .slice none 0 0, .slice none 0 0, .slice none 0 0, .slice none 0 0] 52)).drew := (show Below w.heap.size w (((w.alloc (.cells #[.slice Af f.length cf, v1, v2, v3, v4] 52)).alloc (.cells #[.slice B1 m1 d1, .slice B2 m2 d2, .slice B3 m3 d3] 26)).alloc (.cells #[.slice none 0 0, .slice none 0 0, .slice none 0 0, .slice none 0 0, .slice none 0 0] 52)) by go_grown).drew
  rw [e1] at hY
  rw [e2] at hR
  go_enter Tryz.func110, Tryz.ntmps110
  go_upto_region 1 with fail
  refine wp_region_held_drew (S := (fun w' => w'.cell? ⟨w.heap.size, 0, none⟩ = some (.slice Af f.length cf) ∧ (w'.cell? ⟨w.heap.size + 1, 0, none⟩ = some (.slice B1 m1 d1) ∧ w'.cell? ⟨w.heap.size + 1, 1, none⟩ = some (.slice B2 m2 d2) ∧ w'.cell? ⟨w.heap.size + 1, 2, none⟩ = some (.slice B3 m3 d3)) ∧ (∃ g0 g1 g2 g3 g4, BN (w.heap.size + 2) [g0, g1, g2, g3, g4] w') ∧ Below w.heap.size w w')) (by kernel_rfl) ⟨(hX 0 _ rfl).1, ⟨(hY 0 _ rfl).1, (hY 1 _ rfl).1, (hY 2 _ rfl).1⟩, ⟨_, _, _, _, _, hR⟩, hB0⟩ (fun hHeld => ?_)
  have hO0 : OwnF (((w.alloc (.cells #[.slice Af f.length cf, v1, v2, v3, v4] 52)).alloc (.cells #[.slice B1 m1 d1, .slice B2 m2 d2, .slice B3 m3 d3] 26)).alloc (.cells #[.slice none 0 0, .slice none 0 0, .slice none 0 0, .slice none 0 0, .slice none 0 0] 52)).drew (w.heap.size + 3) none 0 [] none 0 [] := ⟨Own.nil_, Own.nil_, Dis.none_l⟩
  have hz0' : (((w.alloc (.cells #[.slice Af f.length cf, v1, v2, v3, v4] 52)).alloc (.cells #[.slice B1 m1 d1, .slice B2 m2 d2, .slice B3 m3 d3] 26)).alloc (.cells #[.slice none 0 0, .slice none 0 0, .slice none 0 0, .slice none 0 0, .slice none 0 0] 52)).drew.heap.size = w.heap.size + 3 := by simp
  generalize (((w.alloc (.cells #[.slice Af f.length cf, v1, v2, v3, v4] 52)).alloc (.cells #[.slice B1 m1 d1, .slice B2 m2 d2, .slice B3 m3 d3] 26)).alloc (.cells #[.slice none 0 0, .slice none 0 0, .slice none 0 0, .slice none 0 0, .slice none 0 0] 52)).drew = W0 at hHeld hO0 hz0' ⊢
  clear hX hY hR hB0 e1 e2
  change wpAnyH _ _ _ _ _ 10 #[false, false, false, false, false, false, false, false, false, false] _ _
  refine wpAnyH_takeL (i := 1) (v := .pointer (some ⟨w.heap.size, 0, none⟩)) rfl (by kernel_rfl) (by kernel_rfl) (by kernel_rfl) (fun _ _ _ h => h) (Or.inl ⟨by rfl, fun w' hSw => by obtain ⟨z0, ⟨z1, z2, z3⟩, _⟩ := hSw; go_simp⟩) (by assumption) ?_
  simp only [Act.put, List.setIfInBounds_toArray, List.set_cons_zero, List.set_cons_succ]
  refine wpAnyH_takeL (i := 2) (v := .slice Af f.length cf) rfl (by kernel_rfl) (by kernel_rfl) (by kernel_rfl) (fun _ _ _ h => h) (Or.inl ⟨by rfl, fun w' hSw => by obtain ⟨z0, ⟨z1, z2, z3⟩, _⟩ := hSw; go_simp⟩) (by assumption) ?_
  simp only [Act.put, List.setIfInBounds_toArray, List.set_cons_zero, List.set_cons_succ]
  refine wpAnyH_takeL (i := 5) (v := .slice An n.length cn) rfl (by kernel_rfl) (by kernel_rfl) (by kernel_rfl) (fun _ _ _ h => h) (Or.inl ⟨by rfl, fun w' hSw => by obtain ⟨z0, ⟨z1, z2, z3⟩, _⟩ := hSw; go_simp⟩) (by assumption) ?_
  simp only [Act.put, List.setIfInBounds_toArray, List.set_cons_zero, List.set_cons_succ]
  refine wpAnyH_takeL (i := 7) (v := .agg #[.slice B1 m1 d1, .slice B2 m2 d2, .slice B3 m3 d3]) rfl (by kernel_rfl) (by kernel_rfl) (by kernel_rfl) (fun _ _ _ h => h) (Or.inl ⟨by rfl, fun w' hSw => by obtain ⟨z0, ⟨z1, z2, z3⟩, _⟩ := hSw; go_simp⟩) (by assumption) ?_
  simp only [Act.put, List.setIfInBounds_toArray, List.set_cons_zero, List.set_cons_succ]
  refine wpAnyH_inv (m := 2) (I := fun k l a W => ∃ p q A1 c1 L1 A2 c2 L2 u1 y1 u2 y2, k + p + q = 4 ∧ l = #[decide (1 ≤ p), true, true, decide (2 ≤ p), decide (1 ≤ q), true, decide (2 ≤ q), true, false, false] ∧ a = ⟨#[.agg #[.slice Af f.length cf, v1, v2, v3, v4], .slice An n.length cn, .agg #[.slice B1 m1 d1, .slice B2 m2 d2, .slice B3 m3 d3], .pointer (some ⟨w.heap.size, 0, none⟩), undef, .pointer (some ⟨w.heap.size + 1, 0, none⟩), .pointer (some ⟨w.heap.size + 2, 0, none⟩), u1, .pointer (some ⟨w.heap.size, 0, none⟩), .slice Af f.length cf, y1, u2, .slice An n.length cn, y2, .agg #[.slice B1 m1 d1, .slice B2 m2 d2, .slice B3 m3 d3], undef], []⟩ ∧ StaA p f A1 c1 L1 u1 y1 ∧ StaA q n A2 c2 L2 u2 y2 ∧ OwnF W (w.heap.size + 3) A1 c1 L1 A2 c2 L2 ∧ w.heap.size + 3 ≤ W.heap.size ∧ (fun w' => w'.cell? ⟨w.heap.size, 0, none⟩ = some (.slice Af f.length cf) ∧ (w'.cell? ⟨w.heap.size + 1, 0, none⟩ = some (.slice B1 m1 d1) ∧ w'.cell? ⟨w.heap.size + 1, 1, none⟩ = some (.slice B2 m2 d2) ∧ w'.cell? ⟨w.heap.size + 1, 2, none⟩ = some (.slice B3 m3 d3)) ∧ (∃ g0 g1 g2 g3 g4, BN (w.heap.size + 2) [g0, g1, g2, g3, g4] w') ∧ Below w.heap.size w w') W) ?_ ?_ 4 _ _ _ ⟨0, 0, none, 0, [], none, 0, [], undef, undef, undef, undef, rfl, rfl, rfl, .inl ⟨rfl, rfl, rfl, rfl⟩, .inl ⟨rfl, rfl, rfl, rfl⟩, hO0, by omega, hHeld⟩
  · rintro k l a W ⟨p, q, A1, c1, L1, A2, c2, L2, u1, y1, u2, y2, hn, rfl, rfl, h1, h2, hO, hw3, hHeld⟩
    refine ⟨?_, fun i o ho hi K hK => ?_⟩
    · rcases h1 with ⟨rfl, _⟩ | ⟨rfl, _⟩ | ⟨rfl, _⟩ <;> rcases h2 with ⟨rfl, _⟩ | ⟨rfl, _⟩ | ⟨rfl, _⟩ <;> first | kernel_rfl | (exfalso; omega)
    · obtain ⟨hun, _⟩ := mem_ready.1 hi
      have hcont := List.contains_iff_mem.2 hi
      obtain ⟨z0, ⟨z1, z2, z3⟩, ⟨g0, g1, g2, g3, g4, hR⟩, hB⟩ := id hHeld
      have hi10 : i = 0 ∨ i = 1 ∨ i = 2 ∨ i = 3 ∨ i = 4 ∨ i = 5 ∨ i = 6 ∨ i = 7 ∨ i = 8 ∨ i = 9 := by
        have := (List.getElem?_eq_some_iff.1 ho).1
        simp only [List.length_cons, List.length_nil] at this
        omega
      rcases hi10 with rfl | rfl | rfl | rfl | rfl | rfl | rfl | rfl | rfl | rfl
      · rcases h1 with ⟨rfl, rfl, rfl, rfl⟩ | ⟨rfl, _⟩ | ⟨rfl, _⟩
        rotate_left
        · cases hun
        · cases hun
        obtain rfl := Option.some.inj ho
        clear ho hi hcont hun
        go_simp
        have hb : Below W.heap.size W (W.alloc (.cells #[] 73)) := (Below.refl _ _).alloc (Nat.le_refl _) _
        have hS' : (fun w' => w'.cell? ⟨w.heap.size, 0, none⟩ = some (.slice Af f.length cf) ∧ (w'.cell? ⟨w.heap.size + 1, 0, none⟩ = some (.slice B1 m1 d1) ∧ w'.cell? ⟨w.heap.size + 1, 1, none⟩ = some (.slice B2 m2 d2) ∧ w'.cell? ⟨w.heap.size + 1, 2, none⟩ = some (.slice B3 m3 d3)) ∧ (∃ g0 g1 g2 g3 g4, BN (w.heap.size + 2) [g0, g1, g2, g3, g4] w') ∧ Below w.heap.size w w') (W.alloc (.cells #[] 73)) := ⟨keep hb z0, ⟨keep hb z1, keep hb z2, keep hb z3⟩, ⟨_, _, _, _, _, hR.below (by simp) hb⟩, Below.on' hB hb⟩
        exact hK.out _ _ hS' ⟨1, q, _, _, [], A2, c2, L2, _, _, u2, y2, by omega, rfl, rfl, .inr (.inl ⟨rfl, rfl, rfl⟩), h2, hO.made1 (Own.empty W (Nat.le_refl _)) hb (by omega), Nat.le_trans hw3 hb.size, hS'⟩
      · cases hun
      · cases hun
      · rcases h1 with ⟨rfl, _⟩ | ⟨rfl, rfl, rfl⟩ | ⟨rfl, _⟩
        · exfalso
          rcases h2 with ⟨rfl, _⟩ | ⟨rfl, _⟩ | ⟨rfl, _⟩ <;> exact absurd (hcont.symm.trans (by kernel_rfl : _ = false)) (by decide)
        rotate_left
        · cases hun
        obtain rfl := Option.some.inj ho
        clear ho hi hcont hun
        rw [if_pos (by rfl)]
        refine wp_append_all W (.tmp 7) (.tmp 9) _ rfl i0 _ _ Tryz.underlying50 hi0 hz0 hz1 hz2 rfl (by omega) App.len App.one hO.o1 (hSf.below hB) rfl rfl (by simp only [List.length_nil]; unfold maxLen; omega) (by simp only [List.length_nil]; omega) (by omega) ?_
        intro A c V hOw hb hk hd
        have hS' : (fun w' => w'.cell? ⟨w.heap.size, 0, none⟩ = some (.slice Af f.length cf) ∧ (w'.cell? ⟨w.heap.size + 1, 0, none⟩ = some (.slice B1 m1 d1) ∧ w'.cell? ⟨w.heap.size + 1, 1, none⟩ = some (.slice B2 m2 d2) ∧ w'.cell? ⟨w.heap.size + 1, 2, none⟩ = some (.slice B3 m3 d3)) ∧ (∃ g0 g1 g2 g3 g4, BN (w.heap.size + 2) [g0, g1, g2, g3, g4] w') ∧ Below w.heap.size w w') V := ⟨(hb.cell (p := ⟨w.heap.size, 0, none⟩) (by simp)).trans z0, ⟨(hb.cell (p := ⟨w.heap.size + 1, 0, none⟩) (by simp)).trans z1, (hb.cell (p := ⟨w.heap.size + 1, 1, none⟩) (by simp)).trans z2, (hb.cell (p := ⟨w.heap.size + 1, 2, none⟩) (by simp)).trans z3⟩, ⟨_, _, _, _, _, hR.upto (by omega) hb⟩, hB.trans (hb.mono (by omega))⟩
        exact hK.out _ _ hS' ⟨2, q, A, c, [] ++ f, A2, c2, L2, _, _, u2, y2, by omega, rfl, rfl, .inr (.inr ⟨rfl, List.nil_append _, rfl⟩), h2, hO.push1 hOw hk hd, Nat.le_trans hw3 hb.size, hS'⟩
      · rcases h2 with ⟨rfl, rfl, rfl, rfl⟩ | ⟨rfl, _⟩ | ⟨rfl, _⟩
        rotate_left
        · cases hun
        · cases hun
        obtain rfl := Option.some.inj ho
        clear ho hi hcont hun
        go_simp
        have hb : Below W.heap.size W (W.alloc (.cells #[] 73)) := (Below.refl _ _).alloc (Nat.le_refl _) _
        have hS' : (fun w' => w'.cell? ⟨w.heap.size, 0, none⟩ = some (.slice Af f.length cf) ∧ (w'.cell? ⟨w.heap.size + 1, 0, none⟩ = some (.slice B1 m1 d1) ∧ w'.cell? ⟨w.heap.size + 1, 1, none⟩ = some (.slice B2 m2 d2) ∧ w'.cell? ⟨w.heap.size + 1, 2, none⟩ = some (.slice B3 m3 d3)) ∧ (∃ g0 g1 g2 g3 g4, BN (w.heap.size + 2) [g0, g1, g2, g3, g4] w') ∧ Below w.heap.size w w') (W.alloc (.cells #[] 73)) := ⟨keep hb z0, ⟨keep hb z1, keep hb z2, keep hb z3⟩, ⟨_, _, _, _, _, hR.below (by simp) hb⟩, Below.on' hB hb⟩
        exact hK.out _ _ hS' ⟨p, 1, A1, c1, L1, _, _, [], u1, y1, _, _, by omega, rfl, rfl, h1, .inr (.inl ⟨rfl, rfl, rfl⟩), hO.made2 (Own.empty W (Nat.le_refl _)) hb (by omega), Nat.le_trans hw3 hb.size, hS'⟩
      · cases hun
      · rcases h2 with ⟨rfl, _⟩ | ⟨rfl, rfl, rfl⟩ | ⟨rfl, _⟩
        · exfalso
          rcases h1 with ⟨rfl, _⟩ | ⟨rfl, _⟩ | ⟨rfl, _⟩ <;> exact absurd (hcont.symm.trans (by kernel_rfl : _ = false)) (by decide)
        rotate_left
        · cases hun
        obtain rfl := Option.some.inj ho
        clear ho hi hcont hun
        rw [if_pos (by rfl)]
        refine wp_append_all W (.tmp 11) (.tmp 12) _ rfl i0 _ _ Tryz.underlying50 hi0 hz0 hz1 hz2 rfl (by omega) App.len App.one hO.o2 (hSn.below hB) rfl rfl (by simp only [List.length_nil]; unfold maxLen; omega) (by simp only [List.length_nil]; omega) (by omega) ?_
        intro A c V hOw hb hk hd
        have hS' : (fun w' => w'.cell? ⟨w.heap.size, 0, none⟩ = some (.slice Af f.length cf) ∧ (w'.cell? ⟨w.heap.size + 1, 0, none⟩ = some (.slice B1 m1 d1) ∧ w'.cell? ⟨w.heap.size + 1, 1, none⟩ = some (.slice B2 m2 d2) ∧ w'.cell? ⟨w.heap.size + 1, 2, none⟩ = some (.slice B3 m3 d3)) ∧ (∃ g0 g1 g2 g3 g4, BN (w.heap.size + 2) [g0, g1, g2, g3, g4] w') ∧ Below w.heap.size w w') V := ⟨(hb.cell (p := ⟨w.heap.size, 0, none⟩) (by simp)).trans z0, ⟨(hb.cell (p := ⟨w.heap.size + 1, 0, none⟩) (by simp)).trans z1, (hb.cell (p := ⟨w.heap.size + 1, 1, none⟩) (by simp)).trans z2, (hb.cell (p := ⟨w.heap.size + 1, 2, none⟩) (by simp)).trans z3⟩, ⟨_, _, _, _, _, hR.upto (by omega) hb⟩, hB.trans (hb.mono (by omega))⟩
        exact hK.out _ _ hS' ⟨p, 2, A1, c1, L1, A, c, [] ++ n, u1, y1, _, _, by omega, rfl, rfl, h1, .inr (.inr ⟨rfl, List.nil_append _, rfl⟩), hO.push2 hOw hk hd, Nat.le_trans hw3 hb.size, hS'⟩
      · cases hun
      · exfalso
        rcases h1 with ⟨rfl, _⟩ | ⟨rfl, _⟩ | ⟨rfl, _⟩ <;> rcases h2 with ⟨rfl, _⟩ | ⟨rfl, _⟩ | ⟨rfl, _⟩ <;> first | omega | exact absurd (hcont.symm.trans (by kernel_rfl : _ = false)) (by decide)
      · exfalso
        rcases h1 with ⟨rfl, _⟩ | ⟨rfl, _⟩ | ⟨rfl, _⟩ <;> rcases h2 with ⟨rfl, _⟩ | ⟨rfl, _⟩ | ⟨rfl, _⟩ <;> first | omega | exact absurd (hcont.symm.trans (by kernel_rfl : _ = false)) (by decide)
  · rintro l a W ⟨p, q, A1, c1, L1, A2, c2, L2, u1, y1, u2, y2, hn, rfl, rfl, h1, h2, hO, hw3, hHeld⟩
    obtain ⟨rfl, rfl⟩ : p = 2 ∧ q = 2 := by rcases h1 with ⟨rfl, _⟩ | ⟨rfl, _⟩ | ⟨rfl, _⟩ <;> rcases h2 with ⟨rfl, _⟩ | ⟨rfl, _⟩ | ⟨rfl, _⟩ <;> omega
    rcases h1 with ⟨h, _⟩ | ⟨h, _⟩ | ⟨_, rfl, rfl⟩
    · cases h
    · cases h
    rcases h2 with ⟨h, _⟩ | ⟨h, _⟩ | ⟨_, rfl, rfl⟩
    · cases h
    · cases h
    change wpAnyH _ _ _ _ _ _ #[true, true, true, true, true, true, true, true, false, false] _ _
    refine wpAnyH_takeL (i := 8) (v := .agg #[.slice A1 L1.length c1, .slice A2 L2.length c2, .slice B1 m1 d1, .slice B2 m2 d2, .slice B3 m3 d3]) rfl (by kernel_rfl) (by kernel_rfl) (by kernel_rfl) (fun _ _ _ h => h) (Or.inl ⟨by rfl, fun w' hSw => by obtain ⟨z0, ⟨z1, z2, z3⟩, _⟩ := hSw; go_simp⟩) (by assumption) ?_
    simp only [Act.put, List.setIfInBounds_toArray, List.set_cons_zero, List.set_cons_succ]
    refine wpAnyH_ready (rs := [9]) (by kernel_rfl) (by simp) ?_
    refine AllReadyH.consL rfl (fun K hK => ?_) AllReadyH.nil
    obtain ⟨z0, ⟨z1, z2, z3⟩, ⟨g0, g1, g2, g3, g4, hR⟩, hB⟩ := id hHeld
    have hRl := hR.lt (by simp)
    have k0 := (hR 0 _ rfl).1
    have f0 := (hR 0 _ rfl).2
    have k1 := (hR 1 _ rfl).1
    have f1 := (hR 1 _ rfl).2
    have k2 := (hR 2 _ rfl).1
    have f2 := (hR 2 _ rfl).2
    have k3 := (hR 3 _ rfl).1
    have f3 := (hR 3 _ rfl).2
    have k4 := (hR 4 _ rfl).1
    have f4 := (hR 4 _ rfl).2
    go_simp
    have hR' := (((((hR.put (i := 0) rfl (.slice A1 L1.length c1)).put (i := 1) rfl (.slice A2 L2.length c2)).put (i := 2) rfl (.slice B1 m1 d1)).put (i := 3) rfl (.slice B2 m2 d2)).put (i := 4) rfl (.slice B3 m3 d3))
    have hF : Fr (w.heap.size + 2) (w.heap.size + 2 + 1) W (((((W.setCell ⟨w.heap.size + 2, 0, none⟩ (.slice A1 L1.length c1)).setCell ⟨w.heap.size + 2, 1, none⟩ (.slice A2 L2.length c2)).setCell ⟨w.heap.size + 2, 2, none⟩ (.slice B1 m1 d1)).setCell ⟨w.heap.size + 2, 3, none⟩ (.slice B2 m2 d2)).setCell ⟨w.heap.size + 2, 4, none⟩ (.slice B3 m3 d3)) := ((((((Fr.refl _ _ _).setCell ⟨by simp, by simp⟩ _).setCell ⟨by simp, by simp⟩ _).setCell ⟨by simp, by simp⟩ _).setCell ⟨by simp, by simp⟩ _).setCell ⟨by simp, by simp⟩ _)
    have hB' := hB.trans (hF.below (B := w.heap.size) (by omega) (by omega))
    refine hK.out _ _ ⟨(World.cell?_of_block (a := ⟨w.heap.size, 0, none⟩) (hF.block _ (by simp only; omega) (by simp only; omega))).trans z0, ⟨(World.cell?_of_block (a := ⟨w.heap.size + 1, 0, none⟩) (hF.block _ (by simp only; omega) (by simp only; omega))).trans z1, (World.cell?_of_block (a := ⟨w.heap.size + 1, 1, none⟩) (hF.block _ (by simp only; omega) (by simp only; omega))).trans z2, (World.cell?_of_block (a := ⟨w.heap.size + 1, 2, none⟩) (hF.block _ (by simp only; omega) (by simp only; omega))).trans z3⟩, ⟨.slice A1 L1.length c1, .slice A2 L2.length c2, .slice B1 m1 d1, .slice B2 m2 d2, .slice B3 m3 d3, hR'⟩, hB'⟩ (fun _ => ?_)
    have x0 := (hR' 0 _ rfl).1
    have x1 := (hR' 1 _ rfl).1
    have x2 := (hR' 2 _ rfl).1
    have x3 := (hR' 3 _ rfl).1
    have x4 := (hR' 4 _ rfl).1
    have hI := ((hO.far hF (by omega)).lift (b0 := w.heap.size) (by omega)).ints hB'.size
    refine wpAnyH_done (by kernel_rfl) ?_ _
    go_wp2
    refine bodyPost_ret (by simp [results, Tryz.results110, go_sem, x0, x1, x2, x3, x4]; try rfl) rfl ?_
    exact ⟨A1, c1, A2, c2, rfl, hI, hB'⟩
/-- Ends in new memory: the fleets, then rows of the channel's own. -/
def CE (w w' : World) (A1 : Option Addr) (f : List App) (A2 : Option Addr) (n : List App) (A3 : Option Addr) (c3 : Nat) (s : List Msg) (A4 : Option Addr) (c4 : Nat) (r : List Msg) (A5 : Option Addr) (c5 : Nat) (h : List Msg) : Prop :=
  ∃ m1 m2, Apps w' w.heap.size m1 A1 f ∧ Apps w' m1 m2 A2 n ∧ OwnC w' m2 A3 c3 s A4 c4 r A5 c5 h ∧ w.heap.size ≤ m1 ∧ m1 ≤ m2 ∧ m2 ≤ w'.heap.size
theorem BN.c3 {b : Nat} {v0 v1 v2 v3 v4 : Value} {X : World} (a : BN b [v0, v1, v2, v3, v4] X) : C3 b 2 v2 v3 v4 X := ⟨(a 2 _ rfl).1, (a 3 _ rfl).1, (a 4 _ rfl).1, (a 2 _ rfl).2, (a 3 _ rfl).2, (a 4 _ rfl).2⟩
set_option maxRecDepth 100000 in
set_option maxHeartbeats 8000000 in
theorem copyEnds_any (pb : Nat) (Af : Option Addr) (cf : Nat) (f : List App) (An : Option Addr) (cn : Nat) (n : List App) (As : Option Addr) (cs : Nat) (s : List Msg) (Ar : Option Addr) (cr : Nat) (r : List Msg) (Ah : Option Addr) (ch : Nat) (h : List Msg) (w : World) (hX : BN pb [.slice Af f.length cf, .slice An n.length cn, .slice As s.length cs, .slice Ar r.length cr, .slice Ah h.length ch] w) (hlf : f.length ≤ 1048576) (hSf : Apps w 0 w.heap.size Af f) (hln : n.length ≤ 1048576) (hSn : Apps w 0 w.heap.size An n) (hls : s.length ≤ 1048576) (hSs : Msgs w 0 w.heap.size As s) (hlr : r.length ≤ 1048576) (hSr : Msgs w 0 w.heap.size Ar r) (hlh : h.length ≤ 1048576) (hSh : Msgs w 0 w.heap.size Ah h) :
    Calls Tryz.prog 111 #[.pointer (some ⟨pb, 0, none⟩)] w fun e w' => ∃ A1 c1 A2 c2 A3 c3 A4 c4 A5 c5, e = .returned (.agg #[.slice A1 f.length c1, .slice A2 n.length c2, .slice A3 s.length c3, .slice A4 r.length c4, .slice A5 h.length c5]) ∧ CE w w' A1 f A2 n A3 c3 s A4 c4 r A5 c5 h ∧ Below w.heap.size w w' := by
  have hpb := hX.lt (by simp)
  have hX1 := (hX.alloc (by simp) (.cells #[.slice none 0 0, .slice none 0 0, .slice none 0 0, .slice none 0 0, .slice none 0 0] 52)).drew
  have hR1 := (BN.new w #[.slice none 0 0, .slice none 0 0, .slice none 0 0, .slice none 0 0, .slice none 0 0] 52 _ rfl).drew
  have hB0 : Below w.heap.size w (w.alloc (.cells #[.slice none 0 0, .slice none 0 0, .slice none 0 0, .slice none 0 0, .slice none 0 0] 52)).drew := (show Below w.heap.size w (w.alloc (.cells #[.slice none 0 0, .slice none 0 0, .slice none 0 0, .slice none 0 0, .slice none 0 0] 52)) by go_grown).drew
  go_enter Tryz.func111, Tryz.ntmps111
  go_upto_region 1 with fail
  refine wp_region_held_drew (S := (fun w' => BN pb [.slice Af f.length cf, .slice An n.length cn, .slice As s.length cs, .slice Ar r.length cr, .slice Ah h.length ch] w' ∧ (∃ g0 g1 g2 g3 g4, BN w.heap.size [g0, g1, g2, g3, g4] w') ∧ Below w.heap.size w w')) (by kernel_rfl) ⟨hX1, ⟨_, _, _, _, _, hR1⟩, hB0⟩ (fun hHeld => ?_)
  have hz1 : w.heap.size + 1 ≤ (w.alloc (.cells #[.slice none 0 0, .slice none 0 0, .slice none 0 0, .slice none 0 0, .slice none 0 0] 52)).drew.heap.size := by simp
  generalize (w.alloc (.cells #[.slice none 0 0, .slice none 0 0, .slice none 0 0, .slice none 0 0, .slice none 0 0] 52)).drew = W0 at hHeld hz1 ⊢
  clear hX1 hR1 hB0
  change wpAnyH _ _ _ _ _ 16 #[false, false, false, false, false, false, false, false, false, false, false, false, false, false, false, false] _ _
  refine wpAnyH_takeL (i := 0) (v := .pointer (some ⟨pb, 0, none⟩)) rfl (by kernel_rfl) (by kernel_rfl) (by kernel_rfl) (fun _ _ _ h => h) (Or.inl ⟨by rfl, fun w' hSw => by have z0 := (hSw.1 0 _ rfl).1; have z1 := (hSw.1 1 _ rfl).1; have z2 := (hSw.1 2 _ rfl).1; have z3 := (hSw.1 3 _ rfl).1; have z4 := (hSw.1 4 _ rfl).1; go_simp⟩) (by assumption) ?_
  simp only [Act.put, List.setIfInBounds_toArray, List.set_cons_zero, List.set_cons_succ]
  refine wpAnyH_takeL (i := 1) (v := .pointer (some ⟨pb, 0, none⟩)) rfl (by kernel_rfl) (by kernel_rfl) (by kernel_rfl) (fun _ _ _ h => h) (Or.inl ⟨by rfl, fun w' hSw => by have z0 := (hSw.1 0 _ rfl).1; have z1 := (hSw.1 1 _ rfl).1; have z2 := (hSw.1 2 _ rfl).1; have z3 := (hSw.1 3 _ rfl).1; have z4 := (hSw.1 4 _ rfl).1; go_simp⟩) (by assumption) ?_
  simp only [Act.put, List.setIfInBounds_toArray, List.set_cons_zero, List.set_cons_succ]
  refine wpAnyH_takeL (i := 2) (v := .pointer (some ⟨pb, 0, none⟩)) rfl (by kernel_rfl) (by kernel_rfl) (by kernel_rfl) (fun _ _ _ h => h) (Or.inl ⟨by rfl, fun w' hSw => by have z0 := (hSw.1 0 _ rfl).1; have z1 := (hSw.1 1 _ rfl).1; have z2 := (hSw.1 2 _ rfl).1; have z3 := (hSw.1 3 _ rfl).1; have z4 := (hSw.1 4 _ rfl).1; go_simp⟩) (by assumption) ?_
  simp only [Act.put, List.setIfInBounds_toArray, List.set_cons_zero, List.set_cons_succ]
  refine wpAnyH_takeL (i := 3) (v := .slice Af f.length cf) rfl (by kernel_rfl) (by kernel_rfl) (by kernel_rfl) (fun _ _ _ h => h) (Or.inl ⟨by rfl, fun w' hSw => by have z0 := (hSw.1 0 _ rfl).1; have z1 := (hSw.1 1 _ rfl).1; have z2 := (hSw.1 2 _ rfl).1; have z3 := (hSw.1 3 _ rfl).1; have z4 := (hSw.1 4 _ rfl).1; go_simp⟩) (by assumption) ?_
  simp only [Act.put, List.setIfInBounds_toArray, List.set_cons_zero, List.set_cons_succ]
  refine wpAnyH_takeL (i := 5) (v := .pointer (some ⟨pb, 0, none⟩)) rfl (by kernel_rfl) (by kernel_rfl) (by kernel_rfl) (fun _ _ _ h => h) (Or.inl ⟨by rfl, fun w' hSw => by have z0 := (hSw.1 0 _ rfl).1; have z1 := (hSw.1 1 _ rfl).1; have z2 := (hSw.1 2 _ rfl).1; have z3 := (hSw.1 3 _ rfl).1; have z4 := (hSw.1 4 _ rfl).1; go_simp⟩) (by assumption) ?_
  simp only [Act.put, List.setIfInBounds_toArray, List.set_cons_zero, List.set_cons_succ]
  refine wpAnyH_takeL (i := 6) (v := .pointer (some ⟨pb, 0, none⟩)) rfl (by kernel_rfl) (by kernel_rfl) (by kernel_rfl) (fun _ _ _ h => h) (Or.inl ⟨by rfl, fun w' hSw => by have z0 := (hSw.1 0 _ rfl).1; have z1 := (hSw.1 1 _ rfl).1; have z2 := (hSw.1 2 _ rfl).1; have z3 := (hSw.1 3 _ rfl).1; have z4 := (hSw.1 4 _ rfl).1; go_simp⟩) (by assumption) ?_
  simp only [Act.put, List.setIfInBounds_toArray, List.set_cons_zero, List.set_cons_succ]
  refine wpAnyH_takeL (i := 7) (v := .pointer (some ⟨pb, 1, none⟩)) rfl (by kernel_rfl) (by kernel_rfl) (by kernel_rfl) (fun _ _ _ h => h) (Or.inl ⟨by rfl, fun w' hSw => by have z0 := (hSw.1 0 _ rfl).1; have z1 := (hSw.1 1 _ rfl).1; have z2 := (hSw.1 2 _ rfl).1; have z3 := (hSw.1 3 _ rfl).1; have z4 := (hSw.1 4 _ rfl).1; go_simp⟩) (by assumption) ?_
  simp only [Act.put, List.setIfInBounds_toArray, List.set_cons_zero, List.set_cons_succ]
  refine wpAnyH_takeL (i := 8) (v := .slice An n.length cn) rfl (by kernel_rfl) (by kernel_rfl) (by kernel_rfl) (fun _ _ _ h => h) (Or.inl ⟨by rfl, fun w' hSw => by have z0 := (hSw.1 0 _ rfl).1; have z1 := (hSw.1 1 _ rfl).1; have z2 := (hSw.1 2 _ rfl).1; have z3 := (hSw.1 3 _ rfl).1; have z4 := (hSw.1 4 _ rfl).1; go_simp⟩) (by assumption) ?_
  simp only [Act.put, List.setIfInBounds_toArray, List.set_cons_zero, List.set_cons_succ]
  refine wpAnyH_takeL (i := 10) (v := .pointer (some ⟨pb, 0, none⟩)) rfl (by kernel_rfl) (by kernel_rfl) (by kernel_rfl) (fun _ _ _ h => h) (Or.inl ⟨by rfl, fun w' hSw => by have z0 := (hSw.1 0 _ rfl).1; have z1 := (hSw.1 1 _ rfl).1; have z2 := (hSw.1 2 _ rfl).1; have z3 := (hSw.1 3 _ rfl).1; have z4 := (hSw.1 4 _ rfl).1; go_simp⟩) (by assumption) ?_
  simp only [Act.put, List.setIfInBounds_toArray, List.set_cons_zero, List.set_cons_succ]
  refine wpAnyH_takeL (i := 11) (v := .pointer (some ⟨pb, 0, none⟩)) rfl (by kernel_rfl) (by kernel_rfl) (by kernel_rfl) (fun _ _ _ h => h) (Or.inl ⟨by rfl, fun w' hSw => by have z0 := (hSw.1 0 _ rfl).1; have z1 := (hSw.1 1 _ rfl).1; have z2 := (hSw.1 2 _ rfl).1; have z3 := (hSw.1 3 _ rfl).1; have z4 := (hSw.1 4 _ rfl).1; go_simp⟩) (by assumption) ?_
  simp only [Act.put, List.setIfInBounds_toArray, List.set_cons_zero, List.set_cons_succ]
  refine wpAnyH_takeL (i := 12) (v := .pointer (some ⟨pb, 2, none⟩)) rfl (by kernel_rfl) (by kernel_rfl) (by kernel_rfl) (fun _ _ _ h => h) (Or.inl ⟨by rfl, fun w' hSw => by have z0 := (hSw.1 0 _ rfl).1; have z1 := (hSw.1 1 _ rfl).1; have z2 := (hSw.1 2 _ rfl).1; have z3 := (hSw.1 3 _ rfl).1; have z4 := (hSw.1 4 _ rfl).1; go_simp⟩) (by assumption) ?_
  simp only [Act.put, List.setIfInBounds_toArray, List.set_cons_zero, List.set_cons_succ]
  refine wpAnyH_inv (m := 2) (I := fun k l a W => ∃ p m1 m2 A1 c1 A2 c2 A3 c3 A4 c4 A5 c5 y1 y2 y3, k + p = 3 ∧ l = #[true, true, true, true, decide (1 ≤ p), true, true, true, true, decide (2 ≤ p), true, true, true, decide (3 ≤ p), false, false] ∧ a = ⟨#[.pointer (some ⟨pb, 0, none⟩), undef, .pointer (some ⟨w.heap.size, 0, none⟩), .pointer (some ⟨pb, 0, none⟩), .pointer (some ⟨pb, 0, none⟩), .pointer (some ⟨pb, 0, none⟩), .slice Af f.length cf, y1, .pointer (some ⟨pb, 0, none⟩), .pointer (some ⟨pb, 0, none⟩), .pointer (some ⟨pb, 1, none⟩), .slice An n.length cn, y2, .pointer (some ⟨pb, 0, none⟩), .pointer (some ⟨pb, 0, none⟩), .pointer (some ⟨pb, 2, none⟩), y3, undef], []⟩ ∧ ((1 ≤ p → y1 = .slice A1 f.length c1 ∧ Apps W (w.heap.size + 1) m1 A1 f) ∧ (2 ≤ p → y2 = .slice A2 n.length c2 ∧ Apps W m1 m2 A2 n) ∧ (3 ≤ p → y3 = .agg #[.slice A3 s.length c3, .slice A4 r.length c4, .slice A5 h.length c5] ∧ OwnC W m2 A3 c3 s A4 c4 r A5 c5 h)) ∧ (w.heap.size + 1 ≤ m1 ∧ m1 ≤ m2 ∧ m2 ≤ W.heap.size) ∧ (fun w' => BN pb [.slice Af f.length cf, .slice An n.length cn, .slice As s.length cs, .slice Ar r.length cr, .slice Ah h.length ch] w' ∧ (∃ g0 g1 g2 g3 g4, BN w.heap.size [g0, g1, g2, g3, g4] w') ∧ Below w.heap.size w w') W) ?_ ?_ 3 _ _ _ ⟨0, w.heap.size + 1, w.heap.size + 1, none, 0, none, 0, none, 0, none, 0, none, 0, undef, undef, undef, rfl, rfl, rfl, ⟨by omega, by omega, by omega⟩, ⟨by omega, by omega, hz1⟩, hHeld⟩
  · rintro k l a W ⟨p, m1, m2, A1, c1, A2, c2, A3, c3, A4, c4, A5, c5, y1, y2, y3, hn, rfl, rfl, ⟨h1, h2, h3⟩, hm, hHeld⟩
    refine ⟨?_, fun i o ho hi K hK => ?_⟩
    · rcases (by omega : p = 0 ∨ p = 1 ∨ p = 2) with rfl | rfl | rfl <;> kernel_rfl
    · obtain ⟨hun, _⟩ := mem_ready.1 hi
      have hcont := List.contains_iff_mem.2 hi
      obtain ⟨hX, ⟨g0, g1, g2, g3, g4, hR⟩, hB⟩ := id hHeld
      have hi16 : i = 0 ∨ i = 1 ∨ i = 2 ∨ i = 3 ∨ i = 4 ∨ i = 5 ∨ i = 6 ∨ i = 7 ∨ i = 8 ∨ i = 9 ∨ i = 10 ∨ i = 11 ∨ i = 12 ∨ i = 13 ∨ i = 14 ∨ i = 15 := by
        have := (List.getElem?_eq_some_iff.1 ho).1
        simp only [List.length_cons, List.length_nil] at this
        omega
      rcases hi16 with rfl | rfl | rfl | rfl | rfl | rfl | rfl | rfl | rfl | rfl | rfl | rfl | rfl | rfl | rfl | rfl
      · cases hun
      · cases hun
      · cases hun
      · cases hun
      · have hp : p = 0 := by
          rcases (by omega : p = 0 ∨ p = 1 ∨ p = 2) with rfl | rfl | rfl <;> first | rfl | exact absurd hun (by decide) | exact absurd (hcont.symm.trans (by kernel_rfl : _ = false)) (by decide)
        subst hp
        obtain rfl := Option.some.inj ho
        clear ho hi hcont hun
        go_simp
        go_at_call 105
        refine (App.Clone_any Af cf f _ hlf (hSf.below hB).all).mono ?_
        rintro e V ⟨A, c, rfl, hOw, hb⟩
        have hsz := hb.size
        go_simp
        have hS' : (fun w' => BN pb [.slice Af f.length cf, .slice An n.length cn, .slice As s.length cs, .slice Ar r.length cr, .slice Ah h.length ch] w' ∧ (∃ g0 g1 g2 g3 g4, BN w.heap.size [g0, g1, g2, g3, g4] w') ∧ Below w.heap.size w w') V := ⟨hX.below (by simp) hb, ⟨_, _, _, _, _, hR.below (by simp) hb⟩, Below.on' hB hb⟩
        exact hK.out _ _ hS' ⟨1, V.heap.size, V.heap.size, A, c, A2, c2, A3, c3, A4, c4, A5, c5, _, y2, y3, by omega, rfl, rfl, ⟨fun _ => ⟨rfl, (hOw.sl App.len).mono (by omega) (Nat.le_refl _) (Nat.le_refl _)⟩, by omega, by omega⟩, ⟨by omega, Nat.le_refl _, Nat.le_refl _⟩, hS'⟩
      · cases hun
      · cases hun
      · cases hun
      · cases hun
      · have hp : p = 1 := by
          rcases (by omega : p = 0 ∨ p = 1 ∨ p = 2) with rfl | rfl | rfl <;> first | rfl | exact absurd hun (by decide) | exact absurd (hcont.symm.trans (by kernel_rfl : _ = false)) (by decide)
        subst hp
        obtain rfl := Option.some.inj ho
        clear ho hi hcont hun
        obtain ⟨rfl, S1⟩ := h1 (by omega)
        clear h1
        go_simp
        go_at_call 105
        refine (App.Clone_any An cn n _ hln (hSn.below hB).all).mono ?_
        rintro e V ⟨A, c, rfl, hOw, hb⟩
        have hsz := hb.size
        go_simp
        have hS' : (fun w' => BN pb [.slice Af f.length cf, .slice An n.length cn, .slice As s.length cs, .slice Ar r.length cr, .slice Ah h.length ch] w' ∧ (∃ g0 g1 g2 g3 g4, BN w.heap.size [g0, g1, g2, g3, g4] w') ∧ Below w.heap.size w w') V := ⟨hX.below (by simp) hb, ⟨_, _, _, _, _, hR.below (by simp) hb⟩, Below.on' hB hb⟩
        exact hK.out _ _ hS' ⟨2, m1, V.heap.size, A1, c1, A, c, A3, c3, A4, c4, A5, c5, _, _, y3, by omega, rfl, rfl, ⟨fun _ => ⟨rfl, S1.below hb⟩, fun _ => ⟨rfl, (hOw.sl App.len).mono (by omega) (Nat.le_refl _) (Nat.le_refl _)⟩, by omega⟩, ⟨by omega, by omega, Nat.le_refl _⟩, hS'⟩
      · cases hun
      · cases hun
      · cases hun
      · have hp : p = 2 := by
          rcases (by omega : p = 0 ∨ p = 1 ∨ p = 2) with rfl | rfl | rfl <;> first | rfl | exact absurd hun (by decide) | exact absurd (hcont.symm.trans (by kernel_rfl : _ = false)) (by decide)
        subst hp
        obtain rfl := Option.some.inj ho
        clear ho hi hcont hun
        obtain ⟨rfl, S1⟩ := h1 (by omega)
        obtain ⟨rfl, S2⟩ := h2 (by omega)
        clear h1 h2
        go_simp
        go_at_call 66
        refine (copyChannel_any pb 2 As cs s Ar cr r Ah ch h _ hX.c3 hls (hSs.below hB).all hlr (hSr.below hB).all hlh (hSh.below hB).all).mono ?_
        rintro e V ⟨B3, d3, B4, d4, B5, d5, rfl, hO, hb⟩
        have hsz := hb.size
        go_simp
        have hS' : (fun w' => BN pb [.slice Af f.length cf, .slice An n.length cn, .slice As s.length cs, .slice Ar r.length cr, .slice Ah h.length ch] w' ∧ (∃ g0 g1 g2 g3 g4, BN w.heap.size [g0, g1, g2, g3, g4] w') ∧ Below w.heap.size w w') V := ⟨hX.below (by simp) hb, ⟨_, _, _, _, _, hR.below (by simp) hb⟩, Below.on' hB hb⟩
        exact hK.out _ _ hS' ⟨3, m1, m2, A1, c1, A2, c2, B3, d3, B4, d4, B5, d5, _, _, _, by omega, rfl, rfl, ⟨fun _ => ⟨rfl, S1.below hb⟩, fun _ => ⟨rfl, S2.below hb⟩, fun _ => ⟨rfl, hO.lift (by omega)⟩⟩, ⟨by omega, by omega, by omega⟩, hS'⟩
      · exfalso
        rcases (by omega : p = 0 ∨ p = 1 ∨ p = 2) with rfl | rfl | rfl <;> exact absurd (hcont.symm.trans (by kernel_rfl : _ = false)) (by decide)
      · exfalso
        rcases (by omega : p = 0 ∨ p = 1 ∨ p = 2) with rfl | rfl | rfl <;> exact absurd (hcont.symm.trans (by kernel_rfl : _ = false)) (by decide)
  · rintro l a W ⟨p, m1, m2, A1, c1, A2, c2, A3, c3, A4, c4, A5, c5, y1, y2, y3, hn, rfl, rfl, ⟨h1, h2, h3⟩, hm, hHeld⟩
    obtain rfl : p = 3 := by omega
    obtain ⟨rfl, S1⟩ := h1 (by omega)
    obtain ⟨rfl, S2⟩ := h2 (by omega)
    obtain ⟨rfl, hO⟩ := h3 (by omega)
    clear h1 h2 h3
    change wpAnyH _ _ _ _ _ _ #[true, true, true, true, true, true, true, true, true, true, true, true, true, true, false, false] _ _
    refine wpAnyH_takeL (i := 14) (v := .agg #[.slice A1 f.length c1, .slice A2 n.length c2, .slice A3 s.length c3, .slice A4 r.length c4, .slice A5 h.length c5]) rfl (by kernel_rfl) (by kernel_rfl) (by kernel_rfl) (fun _ _ _ h => h) (Or.inl ⟨by rfl, fun w' hSw => by have z0 := (hSw.1 0 _ rfl).1; have z1 := (hSw.1 1 _ rfl).1; have z2 := (hSw.1 2 _ rfl).1; have z3 := (hSw.1 3 _ rfl).1; have z4 := (hSw.1 4 _ rfl).1; go_simp⟩) (by assumption) ?_
    simp only [Act.put, List.setIfInBounds_toArray, List.set_cons_zero, List.set_cons_succ]
    refine wpAnyH_ready (rs := [15]) (by kernel_rfl) (by simp) ?_
    refine AllReadyH.consL rfl (fun K hK => ?_) AllReadyH.nil
    obtain ⟨hX, ⟨g0, g1, g2, g3, g4, hR⟩, hB⟩ := id hHeld
    have hRl := hR.lt (by simp)
    have k0 := (hR 0 _ rfl).1
    have f0 := (hR 0 _ rfl).2
    have k1 := (hR 1 _ rfl).1
    have f1 := (hR 1 _ rfl).2
    have k2 := (hR 2 _ rfl).1
    have f2 := (hR 2 _ rfl).2
    have k3 := (hR 3 _ rfl).1
    have f3 := (hR 3 _ rfl).2
    have k4 := (hR 4 _ rfl).1
    have f4 := (hR 4 _ rfl).2
    go_simp
    have hR' := (((((hR.put (i := 0) rfl (.slice A1 f.length c1)).put (i := 1) rfl (.slice A2 n.length c2)).put (i := 2) rfl (.slice A3 s.length c3)).put (i := 3) rfl (.slice A4 r.length c4)).put (i := 4) rfl (.slice A5 h.length c5))
    have hF : Fr w.heap.size (w.heap.size + 1) W (((((W.setCell ⟨w.heap.size, 0, none⟩ (.slice A1 f.length c1)).setCell ⟨w.heap.size, 1, none⟩ (.slice A2 n.length c2)).setCell ⟨w.heap.size, 2, none⟩ (.slice A3 s.length c3)).setCell ⟨w.heap.size, 3, none⟩ (.slice A4 r.length c4)).setCell ⟨w.heap.size, 4, none⟩ (.slice A5 h.length c5)) := ((((((Fr.refl _ _ _).setCell ⟨by simp, by simp⟩ _).setCell ⟨by simp, by simp⟩ _).setCell ⟨by simp, by simp⟩ _).setCell ⟨by simp, by simp⟩ _).setCell ⟨by simp, by simp⟩ _)
    have hB' := hB.trans (hF.below (B := w.heap.size) (by omega) (by omega))
    have hX' := hX.same (hF.block pb (by omega) (by omega))
    refine hK.out _ _ ⟨hX', ⟨.slice A1 f.length c1, .slice A2 n.length c2, .slice A3 s.length c3, .slice A4 r.length c4, .slice A5 h.length c5, hR'⟩, hB'⟩ (fun _ => ?_)
    have hFs := hF.size
    have x0 := (hR' 0 _ rfl).1
    have x1 := (hR' 1 _ rfl).1
    have x2 := (hR' 2 _ rfl).1
    have x3 := (hR' 3 _ rfl).1
    have x4 := (hR' 4 _ rfl).1
    refine wpAnyH_done (by kernel_rfl) ?_ _
    go_wp2
    refine bodyPost_ret (by simp [results, Tryz.results111, go_sem, x0, x1, x2, x3, x4]; try rfl) rfl ?_
    exact ⟨A1, c1, A2, c2, A3, c3, A4, c4, A5, c5, rfl, ⟨m1, m2, (S1.fr hF (by omega)).mono (by omega) (Nat.le_refl _) (by omega), S2.fr hF (by omega), hO.far hF (by omega), by omega, by omega, by omega⟩, hB'⟩
end Go.Proofs.YtjmjilkpckbpeaaGreatDoor
namespace Go.Proofs.YtjmjilkpckbpeaaGreatDoor
open Go.RowKit

def RENT (w : World) (t : EnT) : Ending → World → Prop := REN w t.1.1 t.1.2.1 t.1.2.2.1 t.1.2.2.2.1 t.1.2.2.2.2 t.2
theorem rec_del {f n : List App} {s r h : List Msg} {i : Int} (g : endsB f n s r h = true) : recT f n s r h i = if (delT s r h i).2 = true then ((f, n, (delT s r h i).1.1, (delT s r h i).1.2.1, (delT s r h i).1.2.2), true) else enNo := by
  have p3 := (ends_parts g).2.2.1
  by_cases k : inB i 0 ((s.length : Int) - 1) = true
  · have k2 : okI s r h s.length i = true := by rw [okI, p3, k]; rfl
    rw [recT, if_pos ⟨g, k⟩, delT, if_pos k2]
    cases s[i.toNat]? <;> rfl
  · have k2 : okI s r h s.length i = false := by rw [okI, p3]; simpa using k
    rw [recT, if_neg (fun e => k e.2), ← delT_no k2]; rfl
theorem IntC.lift {w : World} {base b0 : Nat} {A1 A2 A3 : Option Addr} {s r h : List Msg} (o : IntC w base A1 s A2 r A3 h) (hb : b0 ≤ base) : IntC w b0 A1 s A2 r A3 h := by
  obtain ⟨l1, h1, l2, h2, l3, h3, S1, S2, S3, B1, B2, B3, d⟩ := o
  exact ⟨l1, h1, l2, h2, l3, h3, S1, S2, S3, ⟨by omega, B1.2⟩, ⟨by omega, B2.2⟩, ⟨by omega, B3.2⟩, d⟩
/-- The reference's place in a loop: the ends in a box, the result's box, the channel in a box of its own. -/
structure RQ (w : World) (Af : Option Addr) (cf : Nat) (f : List App) (An : Option Addr) (cn : Nat) (n : List App) (As : Option Addr) (cs : Nat) (s : List Msg) (Ar : Option Addr) (cr : Nat) (r : List Msg) (Ah : Option Addr) (ch : Nat) (h : List Msg) (base yb : Nat) (A3 : Option Addr) (c3 : Nat) (s' : List Msg) (A4 : Option Addr) (c4 : Nat) (r' : List Msg) (A5 : Option Addr) (c5 : Nat) (h' : List Msg) (W : World) : Prop where
  X : BN w.heap.size [.slice Af f.length cf, .slice An n.length cn, .slice As s.length cs, .slice Ar r.length cr, .slice Ah h.length ch] W
  R : BN (w.heap.size + 1) [.slice none 0 0, .slice none 0 0, .slice none 0 0, .slice none 0 0, .slice none 0 0] W
  Y : BN yb [.slice A3 s'.length c3, .slice A4 r'.length c4, .slice A5 h'.length c5] W
  O : OwnC W base A3 c3 s' A4 c4 r' A5 c5 h'
  Sf : Apps W 0 w.heap.size Af f
  Sn : Apps W 0 w.heap.size An n
  B : Below w.heap.size w W
  k0 : w.heap.size + 2 ≤ base
  k1 : base ≤ yb
section
variable {w : World} {Af : Option Addr} {cf : Nat} {f : List App} {An : Option Addr} {cn : Nat} {n : List App} {As : Option Addr} {cs : Nat} {s : List Msg} {Ar : Option Addr} {cr : Nat} {r : List Msg} {Ah : Option Addr} {ch : Nat} {h : List Msg} {base yb : Nat} {A3 : Option Addr} {c3 : Nat} {s' : List Msg} {A4 : Option Addr} {c4 : Nat} {r' : List Msg} {A5 : Option Addr} {c5 : Nat} {h' : List Msg} {W V : World}
theorem RQ.lt (q : RQ w Af cf f An cn n As cs s Ar cr r Ah ch h base yb A3 c3 s' A4 c4 r' A5 c5 h' W) : yb < W.heap.size := q.Y.lt (by simp)
/-- The channel's box takes another channel. -/
theorem RQ.next (q : RQ w Af cf f An cn n As cs s Ar cr r Ah ch h base yb A3 c3 s' A4 c4 r' A5 c5 h' W) {B1 B2 B3 : Option Addr} {d1 d2 d3 : Nat} {s2 r2 h2 : List Msg} (hO : OwnC V W.heap.size B1 d1 s2 B2 d2 r2 B3 d3 h2) (hb : Below W.heap.size W V) :
    RQ w Af cf f An cn n As cs s Ar cr r Ah ch h base yb B1 d1 s2 B2 d2 r2 B3 d3 h2 (((V.setCell ⟨yb, 0, none⟩ (.slice B1 s2.length d1)).setCell ⟨yb, 1, none⟩ (.slice B2 r2.length d2)).setCell ⟨yb, 2, none⟩ (.slice B3 h2.length d3)) := by
  have hlt := q.lt
  have h0 := q.k0
  have h1 := q.k1
  have hF : Fr yb (yb + 1) V (((V.setCell ⟨yb, 0, none⟩ (.slice B1 s2.length d1)).setCell ⟨yb, 1, none⟩ (.slice B2 r2.length d2)).setCell ⟨yb, 2, none⟩ (.slice B3 h2.length d3)) := ((((Fr.refl _ _ _).setCell ⟨by simp, by simp⟩ _).setCell ⟨by simp, by simp⟩ _).setCell ⟨by simp, by simp⟩ _)
  have hs := hb.size
  have hw := q.B.size
  have hz := hF.size
  have hBa : Below (w.heap.size + 2) W (((V.setCell ⟨yb, 0, none⟩ (.slice B1 s2.length d1)).setCell ⟨yb, 1, none⟩ (.slice B2 r2.length d2)).setCell ⟨yb, 2, none⟩ (.slice B3 h2.length d3)) := (hb.mono (by omega)).trans (hF.below (by omega) (by omega))
  exact ⟨q.X.upto (by omega) hBa, q.R.upto (by omega) hBa, ((((q.Y.below (by simp) hb).put (i := 0) rfl (.slice B1 s2.length d1)).put (i := 1) rfl (.slice B2 r2.length d2)).put (i := 2) rfl (.slice B3 h2.length d3)), (hO.far hF (by omega)).lift (by omega),
    q.Sf.upto hBa (by omega), q.Sn.upto hBa (by omega), q.B.trans (hBa.mono (by omega)), h0, h1⟩
end
/-- The program's place in a loop: the copy of the ends in a box, the result's box. -/
structure RI (w : World) (base m1 m2 yb : Nat) (f n : List App) (A1 : Option Addr) (c1 : Nat) (A2 : Option Addr) (c2 : Nat) (A3 : Option Addr) (c3 : Nat) (s' : List Msg) (A4 : Option Addr) (c4 : Nat) (r' : List Msg) (A5 : Option Addr) (c5 : Nat) (h' : List Msg) (W : World) : Prop where
  R : BN (w.heap.size + 1) [.slice none 0 0, .slice none 0 0, .slice none 0 0, .slice none 0 0, .slice none 0 0] W
  Y : BN yb [.slice A1 f.length c1, .slice A2 n.length c2, .slice A3 s'.length c3, .slice A4 r'.length c4, .slice A5 h'.length c5] W
  O : OwnC W m2 A3 c3 s' A4 c4 r' A5 c5 h'
  e3 : Dis A3 (some ⟨yb, 0, none⟩)
  e4 : Dis A4 (some ⟨yb, 0, none⟩)
  e5 : Dis A5 (some ⟨yb, 0, none⟩)
  S1 : Apps W base m1 A1 f
  S2 : Apps W m1 m2 A2 n
  B : Below w.heap.size w W
  k0 : w.heap.size + 2 ≤ base
  k1 : base ≤ m1
  k2 : m1 ≤ m2
  k3 : m2 ≤ yb
theorem BN.of_c3 {b : Nat} {v0 v1 v2 v3 v4 x2 x3 x4 : Value} {X X' : World} {q : Nat} (a : BN b [v0, v1, x2, x3, x4] X) (hC : C3 b 2 v2 v3 v4 X') (hK : BoxB b (2 + q) X X') : BN b [v0, v1, v2, v3, v4] X' := fun j v e => by
  rcases j with _ | _ | _ | _ | _ | j
  · obtain rfl := Option.some.inj e
    have k := hK 0 (by omega)
    exact ⟨k.1.trans (a 0 _ rfl).1, k.2.trans (a 0 _ rfl).2⟩
  · obtain rfl := Option.some.inj e
    have k := hK 1 (by omega)
    exact ⟨k.1.trans (a 1 _ rfl).1, k.2.trans (a 1 _ rfl).2⟩
  · obtain rfl := Option.some.inj e
    exact ⟨hC.c0, hC.f0⟩
  · obtain rfl := Option.some.inj e
    exact ⟨hC.c1, hC.f1⟩
  · obtain rfl := Option.some.inj e
    exact ⟨hC.c2, hC.f2⟩
  · simp at e
section
variable {w : World} {base m1 m2 yb : Nat} {f n : List App} {A1 : Option Addr} {c1 : Nat} {A2 : Option Addr} {c2 : Nat} {A3 : Option Addr} {c3 : Nat} {s' : List Msg} {A4 : Option Addr} {c4 : Nat} {r' : List Msg} {A5 : Option Addr} {c5 : Nat} {h' : List Msg} {W V : World}
theorem RI.lt (q : RI w base m1 m2 yb f n A1 c1 A2 c2 A3 c3 s' A4 c4 r' A5 c5 h' W) : yb < W.heap.size := q.Y.lt (by simp)
theorem RI.below (q : RI w base m1 m2 yb f n A1 c1 A2 c2 A3 c3 s' A4 c4 r' A5 c5 h' W) (hb : Below W.heap.size W V) : RI w base m1 m2 yb f n A1 c1 A2 c2 A3 c3 s' A4 c4 r' A5 c5 h' V :=
  ⟨q.R.below (by simp) hb, q.Y.below (by simp) hb, q.O.below hb, q.e3, q.e4, q.e5, q.S1.below hb, q.S2.below hb, Below.on' q.B hb, q.k0, q.k1, q.k2, q.k3⟩
/-- The copy's box behind the call that made the copy. -/
theorem RI.start {w1 : World} (hC : CE w1 W A1 f A2 n A3 c3 s' A4 c4 r' A5 c5 h') (hR : BN (w.heap.size + 1) [.slice none 0 0, .slice none 0 0, .slice none 0 0, .slice none 0 0, .slice none 0 0] W) (hB : Below w.heap.size w W) (k0 : w.heap.size + 2 ≤ w1.heap.size) :
    ∃ m1 m2, RI w w1.heap.size m1 m2 W.heap.size f n A1 c1 A2 c2 A3 c3 s' A4 c4 r' A5 c5 h' (W.alloc (.cells #[.slice A1 f.length c1, .slice A2 n.length c2, .slice A3 s'.length c3, .slice A4 r'.length c4, .slice A5 h'.length c5] 52)) := by
  obtain ⟨m1, m2, S1, S2, O, k1, k2, k3⟩ := hC
  have hb : Below W.heap.size W (W.alloc (.cells #[.slice A1 f.length c1, .slice A2 n.length c2, .slice A3 s'.length c3, .slice A4 r'.length c4, .slice A5 h'.length c5] 52)) := (Below.refl _ _).alloc (Nat.le_refl _) _
  exact ⟨m1, m2, hR.below (by simp) hb, BN.new W _ 52 _ rfl, O.below hb, dis_lt O.o1.blk, dis_lt O.o2.blk, dis_lt O.o3.blk, S1.below hb, S2.below hb, Below.on' hB hb, k0, k1, k2, k3⟩
theorem RI.deliver (q : RI w base m1 m2 yb f n A1 c1 A2 c2 A3 c3 s' A4 c4 r' A5 c5 h' W) (hs : s'.length ≤ 1048576) (hr : r'.length ≤ 1048576) (i : Nat) (m : Msg) (hm : s'[i]? = some m) :
    Calls Tryz.prog 67 #[.pointer (some ⟨yb, 2, none⟩), .int .i64 i] W fun e V => ∃ A' c', e = .returned (.tuple #[]) ∧ RI w base m1 m2 yb f n A1 c1 A2 c2 A3 c3 s' A' c' (addM r' m) A5 c5 h' V ∧ ButP A4 yb W V ∧ (∀ A, Dis A4 A → (∀ a, A = some a → a.block < W.heap.size) → Dis A' A) ∧ W.heap.size ≤ V.heap.size := by
  have h1 := q.lt
  have k0 := q.k0
  have k1 := q.k1
  have k2 := q.k2
  have k3 := q.k3
  refine (deliver_any yb 2 m2 A3 c3 s' A4 c4 r' A5 c5 h' _ q.Y.c3 q.O (by omega) k3 q.e3 q.e4 q.e5 hs hr i m hm).mono ?_
  rintro e V ⟨A', c', rfl, hC, hO, hd, hb, hbp, hdd, hx⟩
  exact ⟨A', c', rfl, ⟨q.R.upto (by omega) hb, q.Y.of_c3 hC hx, hO, q.e3, hd, q.e5, q.S1.upto hb k2, q.S2.upto hb (Nat.le_refl _), q.B.trans (hb.mono (by omega)), k0, k1, k2, k3⟩, hbp, hdd, hb.size⟩
theorem RI.done (q : RI w base m1 m2 yb f n A1 c1 A2 c2 A3 c3 s' A4 c4 r' A5 c5 h' W) (hF : Fr (w.heap.size + 1) ((w.heap.size + 1) + 1) W V) : IntE V w.heap.size A1 f A2 n A3 s' A4 r' A5 h' := by
  have h1 := q.lt
  have k0 := q.k0
  have k1 := q.k1
  have k2 := q.k2
  have k3 := q.k3
  exact ((IntE.of_o q.S1 q.S2 q.O k1 k2 (by omega)).fr hF (by omega)).lift (by omega)
end
end Go.Proofs.YtjmjilkpckbpeaaGreatDoor

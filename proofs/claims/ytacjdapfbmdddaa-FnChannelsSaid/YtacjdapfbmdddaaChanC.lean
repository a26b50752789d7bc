/- A channel whose lists lie in rows of a call's own, apart from each other. No conditions. -/
import Derived.Test.YtacjdapfbmdddaaChanR
namespace Go.Proofs.Ytacjdapfbmdddaa
open Go.RowKit

theorem B3.drew {b : Nat} {x y z : Value} {X : World} (a : B3 b x y z X) : B3 b x y z X.drew := ⟨a.c0, a.c1, a.c2, a.f0, a.f1, a.f2⟩
theorem B3.same {b : Nat} {x y z : Value} {X X' : World} (a : B3 b x y z X) (e : X'.heap[b]? = X.heap[b]?) : B3 b x y z X' :=
  have h0 : ∀ o, X'.cell? ⟨b, o, none⟩ = X.cell? ⟨b, o, none⟩ := fun o => World.cell?_of_block (a := ⟨b, o, none⟩) e
  have k0 : ∀ o, X'.frozen? ⟨b, o, none⟩ = X.frozen? ⟨b, o, none⟩ := fun o => World.frozen?_of_block (a := ⟨b, o, none⟩) e
  ⟨(h0 0).trans a.c0, (h0 1).trans a.c1, (h0 2).trans a.c2, (k0 0).trans a.f0, (k0 1).trans a.f1, (k0 2).trans a.f2⟩
/-- Where the row lies. -/
def Blk (A : Option Addr) (lo hi : Nat) : Prop := ∀ a, A = some a → lo ≤ a.block ∧ a.block < hi
theorem Blk.dis {A A' : Option Addr} {lo hi lo' hi' : Nat} (h : Blk A lo hi) (h' : Blk A' lo' hi') (hd : hi ≤ lo' ∨ hi' ≤ lo) : Dis A A' := fun a a' e e' q => by
  have := h a e
  have := h' a' e'
  omega
theorem dis_lt {A : Option Addr} {lo g : Nat} (h : Blk A lo g) : Dis A (some ⟨g, 0, none⟩) := fun a a' e e' q => by
  injection e' with e'
  have := h a e
  rw [q, ← e'] at this
  exact absurd this.2 (Nat.lt_irrefl _)
/-- Three values from an offset on. -/
structure C3 (b o : Nat) (x y z : Value) (X : World) : Prop where
  c0 : X.cell? ⟨b, o, none⟩ = some x
  c1 : X.cell? ⟨b, o + 1, none⟩ = some y
  c2 : X.cell? ⟨b, o + 2, none⟩ = some z
  f0 : X.frozen? ⟨b, o, none⟩ = false
  f1 : X.frozen? ⟨b, o + 1, none⟩ = false
  f2 : X.frozen? ⟨b, o + 2, none⟩ = false
theorem B3.c3 {b : Nat} {x y z : Value} {X : World} (a : B3 b x y z X) : C3 b 0 x y z X := ⟨a.c0, a.c1, a.c2, a.f0, a.f1, a.f2⟩
theorem C3.b3 {b : Nat} {x y z : Value} {X : World} (a : C3 b 0 x y z X) : B3 b x y z X := ⟨a.c0, a.c1, a.c2, a.f0, a.f1, a.f2⟩
section
variable {b o : Nat} {x y z : Value} {X X' : World}
theorem C3.lt (a : C3 b o x y z X) : b < X.heap.size := World.block_lt_of_cell? _ _ a.c0
theorem C3.same (a : C3 b o x y z X) (e : X'.heap[b]? = X.heap[b]?) : C3 b o x y z X' :=
  have h0 : ∀ o, X'.cell? ⟨b, o, none⟩ = X.cell? ⟨b, o, none⟩ := fun o => World.cell?_of_block (a := ⟨b, o, none⟩) e
  have k0 : ∀ o, X'.frozen? ⟨b, o, none⟩ = X.frozen? ⟨b, o, none⟩ := fun o => World.frozen?_of_block (a := ⟨b, o, none⟩) e
  ⟨(h0 _).trans a.c0, (h0 _).trans a.c1, (h0 _).trans a.c2, (k0 _).trans a.f0, (k0 _).trans a.f1, (k0 _).trans a.f2⟩
theorem C3.upto {B : Nat} (a : C3 b o x y z X) (hB : b < B) (hb : Below B X X') : C3 b o x y z X' := a.same (hb.block b hB)
theorem C3.below (a : C3 b o x y z X) (hb : Below X.heap.size X X') : C3 b o x y z X' := a.upto a.lt hb
theorem C3.alloc (a : C3 b o x y z X) (q : Obj) : C3 b o x y z (X.alloc q) := a.below ((Below.refl _ _).alloc (Nat.le_refl _) q)
theorem C3.drew (a : C3 b o x y z X) : C3 b o x y z X.drew := ⟨a.c0, a.c1, a.c2, a.f0, a.f1, a.f2⟩
theorem C3.grown {row : Option Nat} (a : C3 b o x y z X) (hg : X.grownBy X' row) (hne : some b ≠ row) : C3 b o x y z X' := a.same (hg.block b a.lt hne)
theorem C3.set1 (a : C3 b o x y z X) (v : Value) : C3 b o x v z (X.setCell ⟨b, o + 1, none⟩ v) :=
  ⟨(World.cell?_setCell_other _ _ _ _ (by simp)).trans a.c0, World.cell?_setCell_same _ _ _ a.c1, (World.cell?_setCell_other _ _ _ _ (by simp)).trans a.c2, (World.frozen?_setCell ..).trans a.f0, (World.frozen?_setCell ..).trans a.f1, (World.frozen?_setCell ..).trans a.f2⟩
theorem C3.set2 (a : C3 b o x y z X) (v : Value) : C3 b o x y v (X.setCell ⟨b, o + 2, none⟩ v) :=
  ⟨(World.cell?_setCell_other _ _ _ _ (by simp)).trans a.c0, (World.cell?_setCell_other _ _ _ _ (by simp)).trans a.c1, World.cell?_setCell_same _ _ _ a.c2, (World.frozen?_setCell ..).trans a.f0, (World.frozen?_setCell ..).trans a.f1, (World.frozen?_setCell ..).trans a.f2⟩
end
/-- Three lists in rows of the call's own, each in a block of its own. -/
structure OwnC (w : World) (base : Nat) (A1 : Option Addr) (c1 : Nat) (s : List Msg) (A2 : Option Addr) (c2 : Nat) (r : List Msg) (A3 : Option Addr) (c3 : Nat) (h : List Msg) : Prop where
  o1 : Own Msg.cells 3 33 w base A1 c1 s
  o2 : Own Msg.cells 3 33 w base A2 c2 r
  o3 : Own Msg.cells 3 33 w base A3 c3 h
  d12 : Dis A1 A2
  d13 : Dis A1 A3
  d23 : Dis A2 A3
/-- Three lists in intervals of blocks from base on, apart from each other. -/
def IntC (w : World) (base : Nat) (A1 : Option Addr) (s : List Msg) (A2 : Option Addr) (r : List Msg) (A3 : Option Addr) (h : List Msg) : Prop :=
  ∃ l1 h1 l2 h2 l3 h3, Msgs w l1 h1 A1 s ∧ Msgs w l2 h2 A2 r ∧ Msgs w l3 h3 A3 h ∧ (base ≤ l1 ∧ l1 ≤ h1 ∧ h1 ≤ w.heap.size) ∧ (base ≤ l2 ∧ l2 ≤ h2 ∧ h2 ≤ w.heap.size) ∧ (base ≤ l3 ∧ l3 ≤ h3 ∧ h3 ≤ w.heap.size) ∧ (h1 ≤ l2 ∨ h2 ≤ l1) ∧ (h1 ≤ l3 ∨ h3 ≤ l1) ∧ (h2 ≤ l3 ∨ h3 ≤ l2)
section
variable {α : Type} {E : α → List Value} {k : Nat} {T : TypeId} {w w' : World} {base : Nat} {A : Option Addr} {c : Nat} {l : List α}
theorem Own.blk (h : Own E k T w base A c l) : Blk A base w.heap.size := fun a ha => by
  refine ⟨?_, h.lt a ha⟩
  rcases h.2 with ⟨h1, _⟩ | ⟨g, cap, cur, h1, hb, _⟩
  · injection h1 with h1; rw [h1] at ha; cases ha
  · injection h1 with h1
    rw [ha] at h1
    injection h1 with h1
    subst h1
    exact hb
theorem Own.int (h : Own E k T w base A c l) (hE : ∀ x, (E x).length = k) (hb : base ≤ w.heap.size) : ∃ lo hi, Sl E k w lo hi A l ∧ (base ≤ lo ∧ lo ≤ hi ∧ hi ≤ w.heap.size) ∧ (∀ a, A = some a → lo = a.block ∧ hi = a.block + 1) ∧ (A = none → hi = base) := by
  cases hA : A with
  | none =>
    refine ⟨base, base, ?_, ⟨Nat.le_refl _, Nat.le_refl _, hb⟩, ?_, fun _ => rfl⟩
    · rw [(h.none_ hA).2]; exact Sl.nil_
    · intro a h; cases h
  | some a =>
    have hB := h.blk a hA
    refine ⟨a.block, a.block + 1, fun hn => ?_, ⟨hB.1, by omega, hB.2⟩, ?_, ?_⟩
    · obtain ⟨b, off, e, _, h2, h3, f⟩ := h.sl hE hn
      rw [hA] at e
      injection e with e
      subst e
      exact ⟨b, off, rfl, Nat.le_refl _, Nat.lt_succ_self _, hB.2, f⟩
    · intro a' e; injection e with e; subst e; exact ⟨rfl, rfl⟩
    · intro e; cases e
end
section
variable {w w' : World} {base : Nat} {s r h : List Msg} {A1 A2 A3 : Option Addr} {c1 c2 c3 : Nat}
theorem OwnC.below (o : OwnC w base A1 c1 s A2 c2 r A3 c3 h) (hb : Below w.heap.size w w') : OwnC w' base A1 c1 s A2 c2 r A3 c3 h := ⟨o.o1.below hb, o.o2.below hb, o.o3.below hb, o.d12, o.d13, o.d23⟩
theorem OwnC.lift {b0 : Nat} (o : OwnC w base A1 c1 s A2 c2 r A3 c3 h) (hb : b0 ≤ base) : OwnC w b0 A1 c1 s A2 c2 r A3 c3 h := ⟨o.o1.lift hb, o.o2.lift hb, o.o3.lift hb, o.d12, o.d13, o.d23⟩
theorem OwnC.alloc (o : OwnC w base A1 c1 s A2 c2 r A3 c3 h) (q : Obj) : OwnC (w.alloc q) base A1 c1 s A2 c2 r A3 c3 h := o.below ((Below.refl _ _).alloc (Nat.le_refl _) q)
theorem OwnC.drew (o : OwnC w base A1 c1 s A2 c2 r A3 c3 h) : OwnC w.drew base A1 c1 s A2 c2 r A3 c3 h := ⟨o.o1, o.o2, o.o3, o.d12, o.d13, o.d23⟩
/-- Cells outside of the three rows may change. -/
theorem OwnC.far (o : OwnC w base A1 c1 s A2 c2 r A3 c3 h) {lo hi : Nat} (hk : Fr lo hi w w') (hd : hi ≤ base) : OwnC w' base A1 c1 s A2 c2 r A3 c3 h :=
  have k : ∀ b, base ≤ b → b < w.heap.size → w'.heap[b]? = w.heap[b]? := fun b h1 h2 => hk.block b h2 (by omega)
  ⟨o.o1.keep k, o.o2.keep k, o.o3.keep k, o.d12, o.d13, o.d23⟩
/-- A box apart from the rows may change. -/
theorem OwnC.apart (o : OwnC w base A1 c1 s A2 c2 r A3 c3 h) {g : Nat} (hk : Fr g (g + 1) w w') (h1 : Dis A1 (some ⟨g, 0, none⟩)) (h2 : Dis A2 (some ⟨g, 0, none⟩)) (h3 : Dis A3 (some ⟨g, 0, none⟩)) : OwnC w' base A1 c1 s A2 c2 r A3 c3 h := by
  have key : ∀ {A : Option Addr} {c : Nat} {l : List Msg}, Own Msg.cells 3 33 w base A c l → Dis A (some ⟨g, 0, none⟩) → Own Msg.cells 3 33 w' base A c l := by
    intro A c l hO hB
    refine ⟨hO.1, ?_⟩
    rcases hO.2 with h1 | ⟨q, cap, cur, e, hb, hg, h2⟩
    · exact .inl h1
    · have e1 : A = some ⟨q, 0, none⟩ := by injection e
      have hne : q ≠ g := hB _ _ e1 rfl
      have hlt := hO.lt _ e1
      exact .inr ⟨q, cap, cur, e, hb, (hk.block q hlt (by omega)).trans hg, h2⟩
  exact ⟨key o.o1 h1, key o.o2 h2, key o.o3 h3, o.d12, o.d13, o.d23⟩
theorem OwnC.ints (o : OwnC w base A1 c1 s A2 c2 r A3 c3 h) (hb : base ≤ w.heap.size) : IntC w base A1 s A2 r A3 h := by
  obtain ⟨l1, h1, S1, B1, k1, n1⟩ := o.o1.int Msg.len hb
  obtain ⟨l2, h2, S2, B2, k2, n2⟩ := o.o2.int Msg.len hb
  obtain ⟨l3, h3, S3, B3, k3, n3⟩ := o.o3.int Msg.len hb
  have key : ∀ {A A' : Option Addr} {l h l' h' : Nat}, Dis A A' → base ≤ l → base ≤ l' → (∀ a, A = some a → l = a.block ∧ h = a.block + 1) → (A = none → h = base) → (∀ a, A' = some a → l' = a.block ∧ h' = a.block + 1) → (A' = none → h' = base) → h ≤ l' ∨ h' ≤ l := by
    intro A A' l h l' h' hd b1 b2 k n k' n'
    cases hA : A with
    | none => have := n hA; omega
    | some a =>
      cases hA' : A' with
      | none => have := n' hA'; omega
      | some a' =>
        have := hd a a' hA hA'
        have := k a hA
        have := k' a' hA'
        omega
  exact ⟨l1, h1, l2, h2, l3, h3, S1, S2, S3, B1, B2, B3, key o.d12 B1.1 B2.1 k1 n1 k2 n2, key o.d13 B1.1 B3.1 k1 n1 k3 n3, key o.d23 B2.1 B3.1 k2 n2 k3 n3⟩
theorem OwnC.push1 (o : OwnC w base A1 c1 s A2 c2 r A3 c3 h) {A' : Option Addr} {c' : Nat} {l' : List Msg} (hO : Own Msg.cells 3 33 w' base A' c' l') (hk : But A1 w w') (hd : ∀ A, Dis A1 A → (∀ a, A = some a → a.block < w.heap.size) → Dis A' A) : OwnC w' base A' c' l' A2 c2 r A3 c3 h :=
  ⟨hO, o.o2.but hk o.d12, o.o3.but hk o.d13, hd A2 o.d12 o.o2.lt, hd A3 o.d13 o.o3.lt, o.d23⟩
theorem OwnC.push2 (o : OwnC w base A1 c1 s A2 c2 r A3 c3 h) {A' : Option Addr} {c' : Nat} {l' : List Msg} (hO : Own Msg.cells 3 33 w' base A' c' l') (hk : But A2 w w') (hd : ∀ A, Dis A2 A → (∀ a, A = some a → a.block < w.heap.size) → Dis A' A) : OwnC w' base A1 c1 s A' c' l' A3 c3 h :=
  ⟨o.o1.but hk o.d12.symm, hO, o.o3.but hk o.d23, (hd A1 o.d12.symm o.o1.lt).symm, o.d13, hd A3 o.d23 o.o3.lt⟩
theorem OwnC.push3 (o : OwnC w base A1 c1 s A2 c2 r A3 c3 h) {A' : Option Addr} {c' : Nat} {l' : List Msg} (hO : Own Msg.cells 3 33 w' base A' c' l') (hk : But A3 w w') (hd : ∀ A, Dis A3 A → (∀ a, A = some a → a.block < w.heap.size) → Dis A' A) : OwnC w' base A1 c1 s A2 c2 r A' c' l' :=
  ⟨o.o1.but hk o.d13.symm, o.o2.but hk o.d23.symm, hO, o.d12, (hd A1 o.d13.symm o.o1.lt).symm, (hd A2 o.d23.symm o.o2.lt).symm⟩
theorem OwnC.made1 (o : OwnC w base none 0 [] A2 c2 r A3 c3 h) {A' : Option Addr} {c' : Nat} {l' : List Msg} (hO : Own Msg.cells 3 33 w' w.heap.size A' c' l') (hk : Below w.heap.size w w') (hb : base ≤ w.heap.size) : OwnC w' base A' c' l' A2 c2 r A3 c3 h :=
  o.push1 (hO.lift hb) (fun b h _ => hk.block b h) (fun _ _ hlt a a2 e e2 q => by have := hO.blk a e; have := hlt a2 e2; omega)
theorem OwnC.made2 (o : OwnC w base A1 c1 s none 0 [] A3 c3 h) {A' : Option Addr} {c' : Nat} {l' : List Msg} (hO : Own Msg.cells 3 33 w' w.heap.size A' c' l') (hk : Below w.heap.size w w') (hb : base ≤ w.heap.size) : OwnC w' base A1 c1 s A' c' l' A3 c3 h :=
  o.push2 (hO.lift hb) (fun b h _ => hk.block b h) (fun _ _ hlt a a2 e e2 q => by have := hO.blk a e; have := hlt a2 e2; omega)
theorem OwnC.made3 (o : OwnC w base A1 c1 s A2 c2 r none 0 []) {A' : Option Addr} {c' : Nat} {l' : List Msg} (hO : Own Msg.cells 3 33 w' w.heap.size A' c' l') (hk : Below w.heap.size w w') (hb : base ≤ w.heap.size) : OwnC w' base A1 c1 s A2 c2 r A' c' l' :=
  o.push3 (hO.lift hb) (fun b h _ => hk.block b h) (fun _ _ hlt a a2 e e2 q => by have := hO.blk a e; have := hlt a2 e2; omega)
theorem IntC.nil_ (w : World) (hb : base ≤ w.heap.size) : IntC w base none [] none [] none [] :=
  ⟨base, base, base, base, base, base, Sl.nil_, Sl.nil_, Sl.nil_, ⟨Nat.le_refl _, Nat.le_refl _, hb⟩, ⟨Nat.le_refl _, Nat.le_refl _, hb⟩, ⟨Nat.le_refl _, Nat.le_refl _, hb⟩, .inl (Nat.le_refl _), .inl (Nat.le_refl _), .inl (Nat.le_refl _)⟩
theorem IntC.below (o : IntC w base A1 s A2 r A3 h) (hb : Below w.heap.size w w') : IntC w' base A1 s A2 r A3 h := by
  obtain ⟨l1, h1, l2, h2, l3, h3, S1, S2, S3, B1, B2, B3, d⟩ := o
  have := hb.size
  exact ⟨l1, h1, l2, h2, l3, h3, S1.below hb, S2.below hb, S3.below hb, ⟨B1.1, B1.2.1, by omega⟩, ⟨B2.1, B2.2.1, by omega⟩, ⟨B3.1, B3.2.1, by omega⟩, d⟩
end
/-- The call returned a channel in rows of its own. -/
def RC (w : World) (s r h : List Msg) (e : Ending) (w' : World) : Prop :=
  ∃ A1 c1 A2 c2 A3 c3, e = .returned (.agg #[.slice A1 s.length c1, .slice A2 r.length c2, .slice A3 h.length c3]) ∧ OwnC w' w.heap.size A1 c1 s A2 c2 r A3 c3 h ∧ Below w.heap.size w w'
/-- The call returned a channel in new memory, and a bool. -/
def RCB (w : World) (s r h : List Msg) (B : Bool) (e : Ending) (w' : World) : Prop :=
  ∃ A1 c1 A2 c2 A3 c3, e = .returned (.tuple #[.agg #[.slice A1 s.length c1, .slice A2 r.length c2, .slice A3 h.length c3], .bool B]) ∧ IntC w' w.heap.size A1 s A2 r A3 h ∧ Below w.heap.size w w'
end Go.Proofs.Ytacjdapfbmdddaa

/- Several texts of this seat, one behind the other. A channel whose lists lie in rows of a call's own, apart from each other. No conditions. A channel copied, by the program and by the reference. Condition: at most 2^20 messages in each list. Valid channels, as the program tests them. Conditions: at most 2^20 messages in each list, texts of at most 2^20. The reference's steps on channels: one message delivered, one confirmed. Condition: at most 2^20 messages in each list. The program's steps on a channel: one message delivered, one confirmed. Condition: at most 2^20 messages in each list. Deliver and Confirm, on both sides. Condition: at most 2^20 messages in each list, texts of at most 2^20. Valid channels are short; what steps on them return is short, too. Plain Lean, no program. No conditions. RunDeliveries, on both sides. Condition: at most 2^20 messages in each list, texts of at most 2^20. InOrder, on both sides. Condition: at most 2^20 messages in each list, texts of at most 2^20. SendMessage, on both sides. Condition: at most 2^20 messages in each list, texts of at most 2^20. -/
import Derived.Test.YtjmjilkpckbpeaaGreatDoorLC
import Derived.Test.YtjmjilkpckbpeaaGreatDoorLA
import Derived.Maps.Own
import Derived.Maps.Views
import Derived.BigQuiet
import Derived.Laws.IdiomStrings
namespace Go.Proofs.YtjmjilkpckbpeaaGreatDoor
open Go.RowKit

theorem B3.drew {b : Nat} {x y z : Value} {X : World} (a : B3 b x y z X) : B3 b x y z X.drew := ⟨a.c0, a.c1, a.c2, a.f0, a.f1, a.f2⟩
theorem B3.same {b : Nat} {x y z : Value} {X X' : World} (a : B3 b x y z X) (e : X'.heap[b]? = X.heap[b]?) : B3 b x y z X' :=
  have h0 : ∀ o, X'.cell? ⟨b, o, none⟩ = X.cell? ⟨b, o, none⟩ := fun o => World.cell?_of_block (a := ⟨b, o, none⟩) e
  have k0 : ∀ o, X'.frozen? ⟨b, o, none⟩ = X.frozen? ⟨b, o, none⟩ := fun o => World.frozen?_of_block (a := ⟨b, o, none⟩) e
  ⟨(h0 0).trans a.c0, (h0 1).trans a.c1, (h0 2).trans a.c2, (k0 0).trans a.f0, (k0 1).trans a.f1, (k0 2).trans a.f2⟩
/-- Where the row lies. -/
def Blk (A : Option Addr) (lo hi : Nat) : Prop := ∀ a, A = some a → lo ≤ a.block ∧ a.block < hi
theorem Blk.dis {A A' : Option Addr} {lo hi lo' hi' : Nat} (h : Blk A lo hi) (h' : Blk A' lo' hi') (hd : hi ≤ lo' ∨ hi' ≤ lo) : Dis A A' := fun a a' e e' q => by
  have := h a e
  have := h' a' e'
  omega
theorem dis_lt {A : Option Addr} {lo g : Nat} (h : Blk A lo g) : Dis A (some ⟨g, 0, none⟩) := fun a a' e e' q => by
  injection e' with e'
  have := h a e
  rw [q, ← e'] at this
  exact absurd this.2 (Nat.lt_irrefl _)
/-- Three values from an offset on. -/
structure C3 (b o : Nat) (x y z : Value) (X : World) : Prop where
  c0 : X.cell? ⟨b, o, none⟩ = some x
  c1 : X.cell? ⟨b, o + 1, none⟩ = some y
  c2 : X.cell? ⟨b, o + 2, none⟩ = some z
  f0 : X.frozen? ⟨b, o, none⟩ = false
  f1 : X.frozen? ⟨b, o + 1, none⟩ = false
  f2 : X.frozen? ⟨b, o + 2, none⟩ = false
theorem B3.c3 {b : Nat} {x y z : Value} {X : World} (a : B3 b x y z X) : C3 b 0 x y z X := ⟨a.c0, a.c1, a.c2, a.f0, a.f1, a.f2⟩
theorem C3.b3 {b : Nat} {x y z : Value} {X : World} (a : C3 b 0 x y z X) : B3 b x y z X := ⟨a.c0, a.c1, a.c2, a.f0, a.f1, a.f2⟩
section
variable {b o : Nat} {x y z : Value} {X X' : World}
theorem C3.lt (a : C3 b o x y z X) : b < X.heap.size := World.block_lt_of_cell? _ _ a.c0
theorem C3.same (a : C3 b o x y z X) (e : X'.heap[b]? = X.heap[b]?) : C3 b o x y z X' :=
  have h0 : ∀ o, X'.cell? ⟨b, o, none⟩ = X.cell? ⟨b, o, none⟩ := fun o => World.cell?_of_block (a := ⟨b, o, none⟩) e
  have k0 : ∀ o, X'.frozen? ⟨b, o, none⟩ = X.frozen? ⟨b, o, none⟩ := fun o => World.frozen?_of_block (a := ⟨b, o, none⟩) e
  ⟨(h0 _).trans a.c0, (h0 _).trans a.c1, (h0 _).trans a.c2, (k0 _).trans a.f0, (k0 _).trans a.f1, (k0 _).trans a.f2⟩
theorem C3.upto {B : Nat} (a : C3 b o x y z X) (hB : b < B) (hb : Below B X X') : C3 b o x y z X' := a.same (hb.block b hB)
theorem C3.below (a : C3 b o x y z X) (hb : Below X.heap.size X X') : C3 b o x y z X' := a.upto a.lt hb
theorem C3.alloc (a : C3 b o x y z X) (q : Obj) : C3 b o x y z (X.alloc q) := a.below ((Below.refl _ _).alloc (Nat.le_refl _) q)
theorem C3.drew (a : C3 b o x y z X) : C3 b o x y z X.drew := ⟨a.c0, a.c1, a.c2, a.f0, a.f1, a.f2⟩
theorem C3.grown {row : Option Nat} (a : C3 b o x y z X) (hg : X.grownBy X' row) (hne : some b ≠ row) : C3 b o x y z X' := a.same (hg.block b a.lt hne)
theorem C3.set1 (a : C3 b o x y z X) (v : Value) : C3 b o x v z (X.setCell ⟨b, o + 1, none⟩ v) :=
  ⟨(World.cell?_setCell_other _ _ _ _ (by simp)).trans a.c0, World.cell?_setCell_same _ _ _ a.c1, (World.cell?_setCell_other _ _ _ _ (by simp)).trans a.c2, (World.frozen?_setCell ..).trans a.f0, (World.frozen?_setCell ..).trans a.f1, (World.frozen?_setCell ..).trans a.f2⟩
theorem C3.set2 (a : C3 b o x y z X) (v : Value) : C3 b o x y v (X.setCell ⟨b, o + 2, none⟩ v) :=
  ⟨(World.cell?_setCell_other _ _ _ _ (by simp)).trans a.c0, (World.cell?_setCell_other _ _ _ _ (by simp)).trans a.c1, World.cell?_setCell_same _ _ _ a.c2, (World.frozen?_setCell ..).trans a.f0, (World.frozen?_setCell ..).trans a.f1, (World.frozen?_setCell ..).trans a.f2⟩
end
/-- Three lists in rows of the call's own, each in a block of its own. -/
structure OwnC (w : World) (base : Nat) (A1 : Option Addr) (c1 : Nat) (s : List Msg) (A2 : Option Addr) (c2 : Nat) (r : List Msg) (A3 : Option Addr) (c3 : Nat) (h : List Msg) : Prop where
  o1 : Own Msg.cells 3 33 w base A1 c1 s
  o2 : Own Msg.cells 3 33 w base A2 c2 r
  o3 : Own Msg.cells 3 33 w base A3 c3 h
  d12 : Dis A1 A2
  d13 : Dis A1 A3
  d23 : Dis A2 A3
/-- Three lists in intervals of blocks from base on, apart from each other. -/
def IntC (w : World) (base : Nat) (A1 : Option Addr) (s : List Msg) (A2 : Option Addr) (r : List Msg) (A3 : Option Addr) (h : List Msg) : Prop :=
  ∃ l1 h1 l2 h2 l3 h3, Msgs w l1 h1 A1 s ∧ Msgs w l2 h2 A2 r ∧ Msgs w l3 h3 A3 h ∧ (base ≤ l1 ∧ l1 ≤ h1 ∧ h1 ≤ w.heap.size) ∧ (base ≤ l2 ∧ l2 ≤ h2 ∧ h2 ≤ w.heap.size) ∧ (base ≤ l3 ∧ l3 ≤ h3 ∧ h3 ≤ w.heap.size) ∧ (h1 ≤ l2 ∨ h2 ≤ l1) ∧ (h1 ≤ l3 ∨ h3 ≤ l1) ∧ (h2 ≤ l3 ∨ h3 ≤ l2)
section
variable {α : Type} {E : α → List Value} {k : Nat} {T : TypeId} {w w' : World} {base : Nat} {A : Option Addr} {c : Nat} {l : List α}
theorem Own.blk (h : Own E k T w base A c l) : Blk A base w.heap.size := fun a ha => by
  refine ⟨?_, h.lt a ha⟩
  rcases h.2 with ⟨h1, _⟩ | ⟨g, cap, cur, h1, hb, _⟩
  · injection h1 with h1; rw [h1] at ha; cases ha
  · injection h1 with h1
    rw [ha] at h1
    injection h1 with h1
    subst h1
    exact hb
theorem Own.int (h : Own E k T w base A c l) (hE : ∀ x, (E x).length = k) (hb : base ≤ w.heap.size) : ∃ lo hi, Sl E k w lo hi A l ∧ (base ≤ lo ∧ lo ≤ hi ∧ hi ≤ w.heap.size) ∧ (∀ a, A = some a → lo = a.block ∧ hi = a.block + 1) ∧ (A = none → hi = base) := by
  cases hA : A with
  | none =>
    refine ⟨base, base, ?_, ⟨Nat.le_refl _, Nat.le_refl _, hb⟩, ?_, fun _ => rfl⟩
    · rw [(h.none_ hA).2]; exact Sl.nil_
    · intro a h; cases h
  | some a =>
    have hB := h.blk a hA
    refine ⟨a.block, a.block + 1, fun hn => ?_, ⟨hB.1, by omega, hB.2⟩, ?_, ?_⟩
    · obtain ⟨b, off, e, _, h2, h3, f⟩ := h.sl hE hn
      rw [hA] at e
      injection e with e
      subst e
      exact ⟨b, off, rfl, Nat.le_refl _, Nat.lt_succ_self _, hB.2, f⟩
    · intro a' e; injection e with e; subst e; exact ⟨rfl, rfl⟩
    · intro e; cases e
end
section
variable {w w' : World} {base : Nat} {s r h : List Msg} {A1 A2 A3 : Option Addr} {c1 c2 c3 : Nat}
theorem OwnC.below (o : OwnC w base A1 c1 s A2 c2 r A3 c3 h) (hb : Below w.heap.size w w') : OwnC w' base A1 c1 s A2 c2 r A3 c3 h := ⟨o.o1.below hb, o.o2.below hb, o.o3.below hb, o.d12, o.d13, o.d23⟩
theorem OwnC.lift {b0 : Nat} (o : OwnC w base A1 c1 s A2 c2 r A3 c3 h) (hb : b0 ≤ base) : OwnC w b0 A1 c1 s A2 c2 r A3 c3 h := ⟨o.o1.lift hb, o.o2.lift hb, o.o3.lift hb, o.d12, o.d13, o.d23⟩
theorem OwnC.alloc (o : OwnC w base A1 c1 s A2 c2 r A3 c3 h) (q : Obj) : OwnC (w.alloc q) base A1 c1 s A2 c2 r A3 c3 h := o.below ((Below.refl _ _).alloc (Nat.le_refl _) q)
theorem OwnC.drew (o : OwnC w base A1 c1 s A2 c2 r A3 c3 h) : OwnC w.drew base A1 c1 s A2 c2 r A3 c3 h := ⟨o.o1, o.o2, o.o3, o.d12, o.d13, o.d23⟩
/-- Cells outside of the three rows may change. -/
theorem OwnC.far (o : OwnC w base A1 c1 s A2 c2 r A3 c3 h) {lo hi : Nat} (hk : Fr lo hi w w') (hd : hi ≤ base) : OwnC w' base A1 c1 s A2 c2 r A3 c3 h :=
  have k : ∀ b, base ≤ b → b < w.heap.size → w'.heap[b]? = w.heap[b]? := fun b h1 h2 => hk.block b h2 (by omega)
  ⟨o.o1.keep k, o.o2.keep k, o.o3.keep k, o.d12, o.d13, o.d23⟩
/-- A box apart from the rows may change. -/
theorem OwnC.apart (o : OwnC w base A1 c1 s A2 c2 r A3 c3 h) {g : Nat} (hk : Fr g (g + 1) w w') (h1 : Dis A1 (some ⟨g, 0, none⟩)) (h2 : Dis A2 (some ⟨g, 0, none⟩)) (h3 : Dis A3 (some ⟨g, 0, none⟩)) : OwnC w' base A1 c1 s A2 c2 r A3 c3 h := by
  have key : ∀ {A : Option Addr} {c : Nat} {l : List Msg}, Own Msg.cells 3 33 w base A c l → Dis A (some ⟨g, 0, none⟩) → Own Msg.cells 3 33 w' base A c l := by
    intro A c l hO hB
    refine ⟨hO.1, ?_⟩
    rcases hO.2 with h1 | ⟨q, cap, cur, e, hb, hg, h2⟩
    · exact .inl h1
    · have e1 : A = some ⟨q, 0, none⟩ := by injection e
      have hne : q ≠ g := hB _ _ e1 rfl
      have hlt := hO.lt _ e1
      exact .inr ⟨q, cap, cur, e, hb, (hk.block q hlt (by omega)).trans hg, h2⟩
  exact ⟨key o.o1 h1, key o.o2 h2, key o.o3 h3, o.d12, o.d13, o.d23⟩
theorem OwnC.ints (o : OwnC w base A1 c1 s A2 c2 r A3 c3 h) (hb : base ≤ w.heap.size) : IntC w base A1 s A2 r A3 h := by
  obtain ⟨l1, h1, S1, B1, k1, n1⟩ := o.o1.int Msg.len hb
  obtain ⟨l2, h2, S2, B2, k2, n2⟩ := o.o2.int Msg.len hb
  obtain ⟨l3, h3, S3, B3, k3, n3⟩ := o.o3.int Msg.len hb
  have key : ∀ {A A' : Option Addr} {l h l' h' : Nat}, Dis A A' → base ≤ l → base ≤ l' → (∀ a, A = some a → l = a.block ∧ h = a.block + 1) → (A = none → h = base) → (∀ a, A' = some a → l' = a.block ∧ h' = a.block + 1) → (A' = none → h' = base) → h ≤ l' ∨ h' ≤ l := by
    intro A A' l h l' h' hd b1 b2 k n k' n'
    cases hA : A with
    | none => have := n hA; omega
    | some a =>
      cases hA' : A' with
      | none => have := n' hA'; omega
      | some a' =>
        have := hd a a' hA hA'
        have := k a hA
        have := k' a' hA'
        omega
  exact ⟨l1, h1, l2, h2, l3, h3, S1, S2, S3, B1, B2, B3, key o.d12 B1.1 B2.1 k1 n1 k2 n2, key o.d13 B1.1 B3.1 k1 n1 k3 n3, key o.d23 B2.1 B3.1 k2 n2 k3 n3⟩
theorem OwnC.push1 (o : OwnC w base A1 c1 s A2 c2 r A3 c3 h) {A' : Option Addr} {c' : Nat} {l' : List Msg} (hO : Own Msg.cells 3 33 w' base A' c' l') (hk : But A1 w w') (hd : ∀ A, Dis A1 A → (∀ a, A = some a → a.block < w.heap.size) → Dis A' A) : OwnC w' base A' c' l' A2 c2 r A3 c3 h :=
  ⟨hO, o.o2.but hk o.d12, o.o3.but hk o.d13, hd A2 o.d12 o.o2.lt, hd A3 o.d13 o.o3.lt, o.d23⟩
theorem OwnC.push2 (o : OwnC w base A1 c1 s A2 c2 r A3 c3 h) {A' : Option Addr} {c' : Nat} {l' : List Msg} (hO : Own Msg.cells 3 33 w' base A' c' l') (hk : But A2 w w') (hd : ∀ A, Dis A2 A → (∀ a, A = some a → a.block < w.heap.size) → Dis A' A) : OwnC w' base A1 c1 s A' c' l' A3 c3 h :=
  ⟨o.o1.but hk o.d12.symm, hO, o.o3.but hk o.d23, (hd A1 o.d12.symm o.o1.lt).symm, o.d13, hd A3 o.d23 o.o3.lt⟩
theorem OwnC.push3 (o : OwnC w base A1 c1 s A2 c2 r A3 c3 h) {A' : Option Addr} {c' : Nat} {l' : List Msg} (hO : Own Msg.cells 3 33 w' base A' c' l') (hk : But A3 w w') (hd : ∀ A, Dis A3 A → (∀ a, A = some a → a.block < w.heap.size) → Dis A' A) : OwnC w' base A1 c1 s A2 c2 r A' c' l' :=
  ⟨o.o1.but hk o.d13.symm, o.o2.but hk o.d23.symm, hO, o.d12, (hd A1 o.d13.symm o.o1.lt).symm, (hd A2 o.d23.symm o.o2.lt).symm⟩
theorem OwnC.made1 (o : OwnC w base none 0 [] A2 c2 r A3 c3 h) {A' : Option Addr} {c' : Nat} {l' : List Msg} (hO : Own Msg.cells 3 33 w' w.heap.size A' c' l') (hk : Below w.heap.size w w') (hb : base ≤ w.heap.size) : OwnC w' base A' c' l' A2 c2 r A3 c3 h :=
  o.push1 (hO.lift hb) (fun b h _ => hk.block b h) (fun _ _ hlt a a2 e e2 q => by have := hO.blk a e; have := hlt a2 e2; omega)
theorem OwnC.made2 (o : OwnC w base A1 c1 s none 0 [] A3 c3 h) {A' : Option Addr} {c' : Nat} {l' : List Msg} (hO : Own Msg.cells 3 33 w' w.heap.size A' c' l') (hk : Below w.heap.size w w') (hb : base ≤ w.heap.size) : OwnC w' base A1 c1 s A' c' l' A3 c3 h :=
  o.push2 (hO.lift hb) (fun b h _ => hk.block b h) (fun _ _ hlt a a2 e e2 q => by have := hO.blk a e; have := hlt a2 e2; omega)
theorem OwnC.made3 (o : OwnC w base A1 c1 s A2 c2 r none 0 []) {A' : Option Addr} {c' : Nat} {l' : List Msg} (hO : Own Msg.cells 3 33 w' w.heap.size A' c' l') (hk : Below w.heap.size w w') (hb : base ≤ w.heap.size) : OwnC w' base A1 c1 s A2 c2 r A' c' l' :=
  o.push3 (hO.lift hb) (fun b h _ => hk.block b h) (fun _ _ hlt a a2 e e2 q => by have := hO.blk a e; have := hlt a2 e2; omega)
theorem IntC.nil_ (w : World) (hb : base ≤ w.heap.size) : IntC w base none [] none [] none [] :=
  ⟨base, base, base, base, base, base, Sl.nil_, Sl.nil_, Sl.nil_, ⟨Nat.le_refl _, Nat.le_refl _, hb⟩, ⟨Nat.le_refl _, Nat.le_refl _, hb⟩, ⟨Nat.le_refl _, Nat.le_refl _, hb⟩, .inl (Nat.le_refl _), .inl (Nat.le_refl _), .inl (Nat.le_refl _)⟩
theorem IntC.below (o : IntC w base A1 s A2 r A3 h) (hb : Below w.heap.size w w') : IntC w' base A1 s A2 r A3 h := by
  obtain ⟨l1, h1, l2, h2, l3, h3, S1, S2, S3, B1, B2, B3, d⟩ := o
  have := hb.size
  exact ⟨l1, h1, l2, h2, l3, h3, S1.below hb, S2.below hb, S3.below hb, ⟨B1.1, B1.2.1, by omega⟩, ⟨B2.1, B2.2.1, by omega⟩, ⟨B3.1, B3.2.1, by omega⟩, d⟩
end
/-- The call returned a channel in rows of its own. -/
def RC (w : World) (s r h : List Msg) (e : Ending) (w' : World) : Prop :=
  ∃ A1 c1 A2 c2 A3 c3, e = .returned (.agg #[.slice A1 s.length c1, .slice A2 r.length c2, .slice A3 h.length c3]) ∧ OwnC w' w.heap.size A1 c1 s A2 c2 r A3 c3 h ∧ Below w.heap.size w w'
/-- The call returned a channel in new memory, and a bool. -/
def RCB (w : World) (s r h : List Msg) (B : Bool) (e : Ending) (w' : World) : Prop :=
  ∃ A1 c1 A2 c2 A3 c3, e = .returned (.tuple #[.agg #[.slice A1 s.length c1, .slice A2 r.length c2, .slice A3 h.length c3], .bool B]) ∧ IntC w' w.heap.size A1 s A2 r A3 h ∧ Below w.heap.size w w'
end Go.Proofs.YtjmjilkpckbpeaaGreatDoor
namespace Go.Proofs.YtjmjilkpckbpeaaGreatDoor
open Go.RowKit

/-- One list is copied (p = 1) or not yet (p = 0). -/
def Stg (p : Nat) (L : List Msg) (A : Option Addr) (c : Nat) (L' : List Msg) (v : Value) : Prop := (p = 0 ∧ A = none ∧ c = 0 ∧ L' = []) ∨ (p = 1 ∧ L' = L ∧ v = .slice A L.length c)
set_option maxRecDepth 100000 in
set_option maxHeartbeats 8000000 in
theorem copyChannel_any (pb po : Nat) (As : Option Addr) (cs : Nat) (s : List Msg) (Ar : Option Addr) (cr : Nat) (r : List Msg) (Ah : Option Addr) (ch : Nat) (h : List Msg) (w : World) (hX : C3 pb po (.slice As s.length cs) (.slice Ar r.length cr) (.slice Ah h.length ch) w) (hls : s.length ≤ 1048576) (hSs : Msgs w 0 w.heap.size As s) (hlr : r.length ≤ 1048576) (hSr : Msgs w 0 w.heap.size Ar r) (hlh : h.length ≤ 1048576) (hSh : Msgs w 0 w.heap.size Ah h) :
    Calls Tryz.prog 66 #[.pointer (some ⟨pb, po, none⟩)] w (RC w s r h) := by
  have hRB := B3.new w (.slice none 0 0) (.slice none 0 0) (.slice none 0 0) 26 _ rfl
  have hX1 := hX.alloc (.cells #[.slice none 0 0, .slice none 0 0, .slice none 0 0] 26)
  have hB0 : Below w.heap.size w (w.alloc (.cells #[.slice none 0 0, .slice none 0 0, .slice none 0 0] 26)) := by go_grown
  have hpb := hX.lt
  go_enter Tryz.func66, Tryz.ntmps66
  go_upto_region 1 with fail
  refine wp_region_held_drew (S := (fun w' => (w'.cell? ⟨pb, po, none⟩ = some (.slice As s.length cs) ∧ w'.cell? ⟨pb, po + 1, none⟩ = some (.slice Ar r.length cr) ∧ w'.cell? ⟨pb, po + 2, none⟩ = some (.slice Ah h.length ch)) ∧ (∃ u0 u1 u2, B3 w.heap.size u0 u1 u2 w') ∧ Below w.heap.size w w')) (by kernel_rfl) ⟨⟨hX1.drew.c0, hX1.drew.c1, hX1.drew.c2⟩, ⟨_, _, _, hRB.drew⟩, hB0.drew⟩ (fun hHeld => ?_)
  have hO0 : OwnC (w.alloc (.cells #[.slice none 0 0, .slice none 0 0, .slice none 0 0] 26)).drew (w.heap.size + 1) none 0 [] none 0 [] none 0 [] := ⟨Own.nil_, Own.nil_, Own.nil_, Dis.none_l, Dis.none_l, Dis.none_l⟩
  generalize (w.alloc (.cells #[.slice none 0 0, .slice none 0 0, .slice none 0 0] 26)).drew = W0 at hHeld hO0 ⊢
  clear hRB hX1 hB0
  change wpAnyH _ _ _ _ _ 17 #[false, false, false, false, false, false, false, false, false, false, false, false, false, false, false, false, false] _ _
  refine wpAnyH_takeL (i := 0) (v := .pointer (some ⟨pb, po, none⟩)) rfl (by kernel_rfl) (by kernel_rfl) (by kernel_rfl) (fun _ _ _ h => h) (Or.inl ⟨by rfl, fun w' hSw => by obtain ⟨⟨z0, z1, z2⟩, _⟩ := hSw; go_simp⟩) (by assumption) ?_
  simp only [Act.put, List.setIfInBounds_toArray, List.set_cons_zero, List.set_cons_succ]
  refine wpAnyH_takeL (i := 1) (v := .pointer (some ⟨pb, po, none⟩)) rfl (by kernel_rfl) (by kernel_rfl) (by kernel_rfl) (fun _ _ _ h => h) (Or.inl ⟨by rfl, fun w' hSw => by obtain ⟨⟨z0, z1, z2⟩, _⟩ := hSw; go_simp⟩) (by assumption) ?_
  simp only [Act.put, List.setIfInBounds_toArray, List.set_cons_zero, List.set_cons_succ]
  refine wpAnyH_takeL (i := 2) (v := .pointer (some ⟨pb, po, none⟩)) rfl (by kernel_rfl) (by kernel_rfl) (by kernel_rfl) (fun _ _ _ h => h) (Or.inl ⟨by rfl, fun w' hSw => by obtain ⟨⟨z0, z1, z2⟩, _⟩ := hSw; go_simp⟩) (by assumption) ?_
  simp only [Act.put, List.setIfInBounds_toArray, List.set_cons_zero, List.set_cons_succ]
  refine wpAnyH_takeL (i := 3) (v := .slice As s.length cs) rfl (by kernel_rfl) (by kernel_rfl) (by kernel_rfl) (fun _ _ _ h => h) (Or.inl ⟨by rfl, fun w' hSw => by obtain ⟨⟨z0, z1, z2⟩, _⟩ := hSw; go_simp⟩) (by assumption) ?_
  simp only [Act.put, List.setIfInBounds_toArray, List.set_cons_zero, List.set_cons_succ]
  refine wpAnyH_takeL (i := 5) (v := .pointer (some ⟨pb, po, none⟩)) rfl (by kernel_rfl) (by kernel_rfl) (by kernel_rfl) (fun _ _ _ h => h) (Or.inl ⟨by rfl, fun w' hSw => by obtain ⟨⟨z0, z1, z2⟩, _⟩ := hSw; go_simp⟩) (by assumption) ?_
  simp only [Act.put, List.setIfInBounds_toArray, List.set_cons_zero, List.set_cons_succ]
  refine wpAnyH_takeL (i := 6) (v := .pointer (some ⟨pb, po, none⟩)) rfl (by kernel_rfl) (by kernel_rfl) (by kernel_rfl) (fun _ _ _ h => h) (Or.inl ⟨by rfl, fun w' hSw => by obtain ⟨⟨z0, z1, z2⟩, _⟩ := hSw; go_simp⟩) (by assumption) ?_
  simp only [Act.put, List.setIfInBounds_toArray, List.set_cons_zero, List.set_cons_succ]
  refine wpAnyH_takeL (i := 7) (v := .pointer (some ⟨pb, po + 1, none⟩)) rfl (by kernel_rfl) (by kernel_rfl) (by kernel_rfl) (fun _ _ _ h => h) (Or.inl ⟨by rfl, fun w' hSw => by obtain ⟨⟨z0, z1, z2⟩, _⟩ := hSw; go_simp⟩) (by assumption) ?_
  simp only [Act.put, List.setIfInBounds_toArray, List.set_cons_zero, List.set_cons_succ]
  refine wpAnyH_takeL (i := 8) (v := .slice Ar r.length cr) rfl (by kernel_rfl) (by kernel_rfl) (by kernel_rfl) (fun _ _ _ h => h) (Or.inl ⟨by rfl, fun w' hSw => by obtain ⟨⟨z0, z1, z2⟩, _⟩ := hSw; go_simp⟩) (by assumption) ?_
  simp only [Act.put, List.setIfInBounds_toArray, List.set_cons_zero, List.set_cons_succ]
  refine wpAnyH_takeL (i := 10) (v := .pointer (some ⟨pb, po, none⟩)) rfl (by kernel_rfl) (by kernel_rfl) (by kernel_rfl) (fun _ _ _ h => h) (Or.inl ⟨by rfl, fun w' hSw => by obtain ⟨⟨z0, z1, z2⟩, _⟩ := hSw; go_simp⟩) (by assumption) ?_
  simp only [Act.put, List.setIfInBounds_toArray, List.set_cons_zero, List.set_cons_succ]
  refine wpAnyH_takeL (i := 11) (v := .pointer (some ⟨pb, po, none⟩)) rfl (by kernel_rfl) (by kernel_rfl) (by kernel_rfl) (fun _ _ _ h => h) (Or.inl ⟨by rfl, fun w' hSw => by obtain ⟨⟨z0, z1, z2⟩, _⟩ := hSw; go_simp⟩) (by assumption) ?_
  simp only [Act.put, List.setIfInBounds_toArray, List.set_cons_zero, List.set_cons_succ]
  refine wpAnyH_takeL (i := 12) (v := .pointer (some ⟨pb, po + 2, none⟩)) rfl (by kernel_rfl) (by kernel_rfl) (by kernel_rfl) (fun _ _ _ h => h) (Or.inl ⟨by rfl, fun w' hSw => by obtain ⟨⟨z0, z1, z2⟩, _⟩ := hSw; go_simp⟩) (by assumption) ?_
  simp only [Act.put, List.setIfInBounds_toArray, List.set_cons_zero, List.set_cons_succ]
  refine wpAnyH_takeL (i := 13) (v := .slice Ah h.length ch) rfl (by kernel_rfl) (by kernel_rfl) (by kernel_rfl) (fun _ _ _ h => h) (Or.inl ⟨by rfl, fun w' hSw => by obtain ⟨⟨z0, z1, z2⟩, _⟩ := hSw; go_simp⟩) (by assumption) ?_
  simp only [Act.put, List.setIfInBounds_toArray, List.set_cons_zero, List.set_cons_succ]
  refine wpAnyH_inv (m := 2) (I := fun n l a W => ∃ p q z A1 c1 L1 A2 c2 L2 A3 c3 L3 v1 v2 v3, n + p + q + z = 3 ∧ l = #[true, true, true, true, decide (1 ≤ p), true, true, true, true, decide (1 ≤ q), true, true, true, true, decide (1 ≤ z), false, false] ∧ a = ⟨#[.pointer (some ⟨pb, po, none⟩), undef, .pointer (some ⟨w.heap.size, 0, none⟩), .pointer (some ⟨pb, po, none⟩), .pointer (some ⟨pb, po, none⟩), .pointer (some ⟨pb, po, none⟩), .slice As s.length cs, v1, .pointer (some ⟨pb, po, none⟩), .pointer (some ⟨pb, po, none⟩), .pointer (some ⟨pb, po + 1, none⟩), .slice Ar r.length cr, v2, .pointer (some ⟨pb, po, none⟩), .pointer (some ⟨pb, po, none⟩), .pointer (some ⟨pb, po + 2, none⟩), .slice Ah h.length ch, v3, undef], []⟩ ∧ Stg p s A1 c1 L1 v1 ∧ Stg q r A2 c2 L2 v2 ∧ Stg z h A3 c3 L3 v3 ∧ OwnC W (w.heap.size + 1) A1 c1 L1 A2 c2 L2 A3 c3 L3 ∧ ((fun w' => (w'.cell? ⟨pb, po, none⟩ = some (.slice As s.length cs) ∧ w'.cell? ⟨pb, po + 1, none⟩ = some (.slice Ar r.length cr) ∧ w'.cell? ⟨pb, po + 2, none⟩ = some (.slice Ah h.length ch)) ∧ (∃ u0 u1 u2, B3 w.heap.size u0 u1 u2 w') ∧ Below w.heap.size w w')) W) ?_ ?_ 3 _ _ _ ⟨0, 0, 0, none, 0, [], none, 0, [], none, 0, [], undef, undef, undef, rfl, rfl, rfl, .inl ⟨rfl, rfl, rfl, rfl⟩, .inl ⟨rfl, rfl, rfl, rfl⟩, .inl ⟨rfl, rfl, rfl, rfl⟩, hO0, hHeld⟩
  · rintro n l a W ⟨p, q, z, A1, c1, L1, A2, c2, L2, A3, c3, L3, v1, v2, v3, hn, rfl, rfl, h1, h2, h3, hO, hHeld⟩
    refine ⟨?_, fun i o ho hi K hK => ?_⟩
    · rcases h1 with ⟨rfl, _⟩ | ⟨rfl, _⟩ <;> rcases h2 with ⟨rfl, _⟩ | ⟨rfl, _⟩ <;> rcases h3 with ⟨rfl, _⟩ | ⟨rfl, _⟩ <;> first | kernel_rfl | (exfalso; omega)
    · obtain ⟨hun, _⟩ := mem_ready.1 hi
      have hcont := List.contains_iff_mem.2 hi
      obtain ⟨⟨z0, z1, z2⟩, ⟨u0, u1, u2, hR⟩, hB⟩ := id hHeld
      have hRl := hR.lt
      have hi17 : i = 0 ∨ i = 1 ∨ i = 2 ∨ i = 3 ∨ i = 4 ∨ i = 5 ∨ i = 6 ∨ i = 7 ∨ i = 8 ∨ i = 9 ∨ i = 10 ∨ i = 11 ∨ i = 12 ∨ i = 13 ∨ i = 14 ∨ i = 15 ∨ i = 16 := by
        have := (List.getElem?_eq_some_iff.1 ho).1
        simp only [List.length_cons, List.length_nil] at this
        omega
      rcases hi17 with rfl | rfl | rfl | rfl | rfl | rfl | rfl | rfl | rfl | rfl | rfl | rfl | rfl | rfl | rfl | rfl | rfl
      · cases hun
      · cases hun
      · cases hun
      · cases hun
      · rcases h1 with ⟨rfl, rfl, rfl, rfl⟩ | ⟨rfl, _⟩
        rotate_left
        · cases hun
        obtain rfl := Option.some.inj ho
        clear ho hi hcont hun
        go_simp
        go_at_call 76
        refine (Msg.Clone_any As cs s _ hls (hSs.below hB).all).mono ?_
        rintro e V ⟨A, c, rfl, hOw, hb⟩
        go_simp
        have hS' : ((fun w' => (w'.cell? ⟨pb, po, none⟩ = some (.slice As s.length cs) ∧ w'.cell? ⟨pb, po + 1, none⟩ = some (.slice Ar r.length cr) ∧ w'.cell? ⟨pb, po + 2, none⟩ = some (.slice Ah h.length ch)) ∧ (∃ u0 u1 u2, B3 w.heap.size u0 u1 u2 w') ∧ Below w.heap.size w w')) V := ⟨⟨keep hb z0, keep hb z1, keep hb z2⟩, ⟨_, _, _, hR.below hb⟩, Below.on' hB hb⟩
        exact hK.out _ _ hS' ⟨1, q, z, A, c, s, A2, c2, L2, A3, c3, L3, _, v2, v3, by omega, rfl, rfl, .inr ⟨rfl, rfl, rfl⟩, h2, h3, hO.made1 hOw hb (by omega), hS'⟩
      · cases hun
      · cases hun
      · cases hun
      · cases hun
      · rcases h2 with ⟨rfl, rfl, rfl, rfl⟩ | ⟨rfl, _⟩
        rotate_left
        · cases hun
        obtain rfl := Option.some.inj ho
        clear ho hi hcont hun
        go_simp
        go_at_call 76
        refine (Msg.Clone_any Ar cr r _ hlr (hSr.below hB).all).mono ?_
        rintro e V ⟨A, c, rfl, hOw, hb⟩
        go_simp
        have hS' : ((fun w' => (w'.cell? ⟨pb, po, none⟩ = some (.slice As s.length cs) ∧ w'.cell? ⟨pb, po + 1, none⟩ = some (.slice Ar r.length cr) ∧ w'.cell? ⟨pb, po + 2, none⟩ = some (.slice Ah h.length ch)) ∧ (∃ u0 u1 u2, B3 w.heap.size u0 u1 u2 w') ∧ Below w.heap.size w w')) V := ⟨⟨keep hb z0, keep hb z1, keep hb z2⟩, ⟨_, _, _, hR.below hb⟩, Below.on' hB hb⟩
        exact hK.out _ _ hS' ⟨p, 1, z, A1, c1, L1, A, c, r, A3, c3, L3, v1, _, v3, by omega, rfl, rfl, h1, .inr ⟨rfl, rfl, rfl⟩, h3, hO.made2 hOw hb (by omega), hS'⟩
      · cases hun
      · cases hun
      · cases hun
      · cases hun
      · rcases h3 with ⟨rfl, rfl, rfl, rfl⟩ | ⟨rfl, _⟩
        rotate_left
        · cases hun
        obtain rfl := Option.some.inj ho
        clear ho hi hcont hun
        go_simp
        go_at_call 76
        refine (Msg.Clone_any Ah ch h _ hlh (hSh.below hB).all).mono ?_
        rintro e V ⟨A, c, rfl, hOw, hb⟩
        go_simp
        have hS' : ((fun w' => (w'.cell? ⟨pb, po, none⟩ = some (.slice As s.length cs) ∧ w'.cell? ⟨pb, po + 1, none⟩ = some (.slice Ar r.length cr) ∧ w'.cell? ⟨pb, po + 2, none⟩ = some (.slice Ah h.length ch)) ∧ (∃ u0 u1 u2, B3 w.heap.size u0 u1 u2 w') ∧ Below w.heap.size w w')) V := ⟨⟨keep hb z0, keep hb z1, keep hb z2⟩, ⟨_, _, _, hR.below hb⟩, Below.on' hB hb⟩
        exact hK.out _ _ hS' ⟨p, q, 1, A1, c1, L1, A2, c2, L2, A, c, h, v1, v2, _, by omega, rfl, rfl, h1, h2, .inr ⟨rfl, rfl, rfl⟩, hO.made3 hOw hb (by omega), hS'⟩
      · exfalso
        rcases h1 with ⟨rfl, _⟩ | ⟨rfl, _⟩ <;> rcases h2 with ⟨rfl, _⟩ | ⟨rfl, _⟩ <;> rcases h3 with ⟨rfl, _⟩ | ⟨rfl, _⟩ <;> first | omega | exact absurd (hcont.symm.trans (by kernel_rfl : _ = false)) (by decide)
      · exfalso
        rcases h1 with ⟨rfl, _⟩ | ⟨rfl, _⟩ <;> rcases h2 with ⟨rfl, _⟩ | ⟨rfl, _⟩ <;> rcases h3 with ⟨rfl, _⟩ | ⟨rfl, _⟩ <;> first | omega | exact absurd (hcont.symm.trans (by kernel_rfl : _ = false)) (by decide)
  · rintro l a W ⟨p, q, z, A1, c1, L1, A2, c2, L2, A3, c3, L3, v1, v2, v3, hn, rfl, rfl, h1, h2, h3, hO, hHeld⟩
    obtain ⟨rfl, rfl, rfl⟩ : p = 1 ∧ q = 1 ∧ z = 1 := by rcases h1 with ⟨rfl, _⟩ | ⟨rfl, _⟩ <;> rcases h2 with ⟨rfl, _⟩ | ⟨rfl, _⟩ <;> rcases h3 with ⟨rfl, _⟩ | ⟨rfl, _⟩ <;> omega
    rcases h1 with ⟨h, _⟩ | ⟨_, rfl, rfl⟩
    · cases h
    rcases h2 with ⟨h, _⟩ | ⟨_, rfl, rfl⟩
    · cases h
    rcases h3 with ⟨h, _⟩ | ⟨_, rfl, rfl⟩
    · cases h
    change wpAnyH _ _ _ _ _ _ #[true, true, true, true, true, true, true, true, true, true, true, true, true, true, true, false, false] _ _
    refine wpAnyH_takeL (i := 15) (v := .agg #[.slice A1 L1.length c1, .slice A2 L2.length c2, .slice A3 L3.length c3]) rfl (by kernel_rfl) (by kernel_rfl) (by kernel_rfl) (fun _ _ _ h => h) (Or.inl ⟨by rfl, fun w' hSw => by obtain ⟨⟨z0, z1, z2⟩, _⟩ := hSw; go_simp⟩) (by assumption) ?_
    simp only [Act.put, List.setIfInBounds_toArray, List.set_cons_zero, List.set_cons_succ]
    refine wpAnyH_ready (rs := [16]) (by kernel_rfl) (by simp) ?_
    refine AllReadyH.consL rfl (fun K hK => ?_) AllReadyH.nil
    obtain ⟨⟨z0, z1, z2⟩, ⟨u0, u1, u2, hR⟩, hB⟩ := id hHeld
    obtain ⟨k0, k1, k2, f0, f1, f2⟩ := id hR
    go_simp
    have hRl := hR.lt
    have hF : Fr (w.heap.size) (w.heap.size + 1) W (((W.setCell ⟨w.heap.size, 0, none⟩ (.slice A1 L1.length c1)).setCell ⟨w.heap.size, 1, none⟩ (.slice A2 L2.length c2)).setCell ⟨w.heap.size, 2, none⟩ (.slice A3 L3.length c3)) := (((Fr.refl _ _ _).setCell ⟨by simp, by simp⟩ _).setCell ⟨by simp, by simp⟩ _).setCell ⟨by simp, by simp⟩ _
    have hB' := hB.trans (hF.below (B := w.heap.size) (by omega) (by omega))
    have hO' := (hO.far hF (by omega)).lift (b0 := w.heap.size) (by omega)
    have hR' := ((hR.set0 (.slice A1 L1.length c1)).set1 (.slice A2 L2.length c2)).set2 (.slice A3 L3.length c3)
    refine hK.out _ _ ⟨⟨(unset (unset (unset z0 (by simp; omega)) (by simp; omega)) (by simp; omega)), (unset (unset (unset z1 (by simp; omega)) (by simp; omega)) (by simp; omega)), (unset (unset (unset z2 (by simp; omega)) (by simp; omega)) (by simp; omega))⟩, ⟨_, _, _, hR'⟩, hB'⟩ (fun _ => ?_)
    obtain ⟨x0, x1, x2, _, _, _⟩ := id hR'
    refine wpAnyH_done (by kernel_rfl) ?_ _
    go_wp2
    refine bodyPost_ret (by simp [results, Tryz.results66, go_sem, x0, x1, x2]; try rfl) rfl ?_
    exact ⟨A1, c1, A2, c2, A3, c3, rfl, hO', hB'⟩
/-- One list: no row yet (p = 0), an empty row (p = 1), copied (p = 2). -/
def Sta (p : Nat) (L : List Msg) (A : Option Addr) (c : Nat) (L' : List Msg) (u v : Value) : Prop := (p = 0 ∧ A = none ∧ c = 0 ∧ L' = []) ∨ (p = 1 ∧ L' = [] ∧ u = .slice A 0 c) ∨ (p = 2 ∧ L' = L ∧ v = .slice A L.length c)
set_option maxRecDepth 100000 in
set_option maxHeartbeats 8000000 in
theorem raOwn_any (As : Option Addr) (cs : Nat) (s : List Msg) (Ar : Option Addr) (cr : Nat) (r : List Msg) (Ah : Option Addr) (ch : Nat) (h : List Msg) (w : World) (hls : s.length ≤ 1048576) (hSs : Msgs w 0 w.heap.size As s) (hlr : r.length ≤ 1048576) (hSr : Msgs w 0 w.heap.size Ar r) (hlh : h.length ≤ 1048576) (hSh : Msgs w 0 w.heap.size Ah h) :
    Calls Tryz.prog 112 #[.agg #[.slice As s.length cs, .slice Ar r.length cr, .slice Ah h.length ch]] w (RC w s r h) := by
  obtain ⟨i0, hi0, hz0, hz1, hz2⟩ := info_parts Msg.info
  have e1 : (w.alloc (.cells #[.slice As s.length cs, .slice Ar r.length cr, .slice Ah h.length ch] 26)).heap.size = w.heap.size + 1 := by simp
  have hRB := B3.new (w.alloc (.cells #[.slice As s.length cs, .slice Ar r.length cr, .slice Ah h.length ch] 26)) (.slice none 0 0) (.slice none 0 0) (.slice none 0 0) 26 (w.heap.size + 1) e1.symm
  have hX1 := (B3.new w (.slice As s.length cs) (.slice Ar r.length cr) (.slice Ah h.length ch) 26 _ rfl).alloc (.cells #[.slice none 0 0, .slice none 0 0, .slice none 0 0] 26)
  have hB0 : Below w.heap.size w ((w.alloc (.cells #[.slice As s.length cs, .slice Ar r.length cr, .slice Ah h.length ch] 26)).alloc (.cells #[.slice none 0 0, .slice none 0 0, .slice none 0 0] 26)) := by go_grown
  go_enter Tryz.func112, Tryz.ntmps112
  go_upto_region 1 with fail
  refine wp_region_held_drew (S := (fun w' => (w'.cell? ⟨w.heap.size, 0, none⟩ = some (.slice As s.length cs) ∧ w'.cell? ⟨w.heap.size, 1, none⟩ = some (.slice Ar r.length cr) ∧ w'.cell? ⟨w.heap.size, 2, none⟩ = some (.slice Ah h.length ch)) ∧ (∃ u0 u1 u2, B3 (w.heap.size + 1) u0 u1 u2 w') ∧ Below w.heap.size w w')) (by kernel_rfl) ⟨⟨hX1.drew.c0, hX1.drew.c1, hX1.drew.c2⟩, ⟨_, _, _, hRB.drew⟩, hB0.drew⟩ (fun hHeld => ?_)
  have hO0 : OwnC ((w.alloc (.cells #[.slice As s.length cs, .slice Ar r.length cr, .slice Ah h.length ch] 26)).alloc (.cells #[.slice none 0 0, .slice none 0 0, .slice none 0 0] 26)).drew (w.heap.size + 2) none 0 [] none 0 [] none 0 [] := ⟨Own.nil_, Own.nil_, Own.nil_, Dis.none_l, Dis.none_l, Dis.none_l⟩
  generalize ((w.alloc (.cells #[.slice As s.length cs, .slice Ar r.length cr, .slice Ah h.length ch] 26)).alloc (.cells #[.slice none 0 0, .slice none 0 0, .slice none 0 0] 26)).drew = W0 at hHeld hO0 ⊢
  clear hRB hX1 hB0
  change wpAnyH _ _ _ _ _ 14 #[false, false, false, false, false, false, false, false, false, false, false, false, false, false] _ _
  refine wpAnyH_takeL (i := 1) (v := .pointer (some ⟨w.heap.size, 0, none⟩)) rfl (by kernel_rfl) (by kernel_rfl) (by kernel_rfl) (fun _ _ _ h => h) (Or.inl ⟨by rfl, fun w' hSw => by obtain ⟨⟨z0, z1, z2⟩, _⟩ := hSw; go_simp⟩) (by assumption) ?_
  simp only [Act.put, List.setIfInBounds_toArray, List.set_cons_zero, List.set_cons_succ]
  refine wpAnyH_takeL (i := 2) (v := .slice As s.length cs) rfl (by kernel_rfl) (by kernel_rfl) (by kernel_rfl) (fun _ _ _ h => h) (Or.inl ⟨by rfl, fun w' hSw => by obtain ⟨⟨z0, z1, z2⟩, _⟩ := hSw; go_simp⟩) (by assumption) ?_
  simp only [Act.put, List.setIfInBounds_toArray, List.set_cons_zero, List.set_cons_succ]
  refine wpAnyH_takeL (i := 5) (v := .pointer (some ⟨w.heap.size, 1, none⟩)) rfl (by kernel_rfl) (by kernel_rfl) (by kernel_rfl) (fun _ _ _ h => h) (Or.inl ⟨by rfl, fun w' hSw => by obtain ⟨⟨z0, z1, z2⟩, _⟩ := hSw; go_simp⟩) (by assumption) ?_
  simp only [Act.put, List.setIfInBounds_toArray, List.set_cons_zero, List.set_cons_succ]
  refine wpAnyH_takeL (i := 6) (v := .slice Ar r.length cr) rfl (by kernel_rfl) (by kernel_rfl) (by kernel_rfl) (fun _ _ _ h => h) (Or.inl ⟨by rfl, fun w' hSw => by obtain ⟨⟨z0, z1, z2⟩, _⟩ := hSw; go_simp⟩) (by assumption) ?_
  simp only [Act.put, List.setIfInBounds_toArray, List.set_cons_zero, List.set_cons_succ]
  refine wpAnyH_takeL (i := 9) (v := .pointer (some ⟨w.heap.size, 2, none⟩)) rfl (by kernel_rfl) (by kernel_rfl) (by kernel_rfl) (fun _ _ _ h => h) (Or.inl ⟨by rfl, fun w' hSw => by obtain ⟨⟨z0, z1, z2⟩, _⟩ := hSw; go_simp⟩) (by assumption) ?_
  simp only [Act.put, List.setIfInBounds_toArray, List.set_cons_zero, List.set_cons_succ]
  refine wpAnyH_takeL (i := 10) (v := .slice Ah h.length ch) rfl (by kernel_rfl) (by kernel_rfl) (by kernel_rfl) (fun _ _ _ h => h) (Or.inl ⟨by rfl, fun w' hSw => by obtain ⟨⟨z0, z1, z2⟩, _⟩ := hSw; go_simp⟩) (by assumption) ?_
  simp only [Act.put, List.setIfInBounds_toArray, List.set_cons_zero, List.set_cons_succ]
  refine wpAnyH_inv (m := 2) (I := fun n l a W => ∃ p q z A1 c1 L1 A2 c2 L2 A3 c3 L3 u1 v1 u2 v2 u3 v3, n + p + q + z = 6 ∧ l = #[decide (1 ≤ p), true, true, decide (2 ≤ p), decide (1 ≤ q), true, true, decide (2 ≤ q), decide (1 ≤ z), true, true, decide (2 ≤ z), false, false] ∧ a = ⟨#[.agg #[.slice As s.length cs, .slice Ar r.length cr, .slice Ah h.length ch], .pointer (some ⟨w.heap.size, 0, none⟩), .pointer (some ⟨(w.heap.size + 1), 0, none⟩), u1, .pointer (some ⟨w.heap.size, 0, none⟩), .slice As s.length cs, v1, u2, .pointer (some ⟨w.heap.size, 1, none⟩), .slice Ar r.length cr, v2, u3, .pointer (some ⟨w.heap.size, 2, none⟩), .slice Ah h.length ch, v3, undef], []⟩ ∧ Sta p s A1 c1 L1 u1 v1 ∧ Sta q r A2 c2 L2 u2 v2 ∧ Sta z h A3 c3 L3 u3 v3 ∧ OwnC W (w.heap.size + 2) A1 c1 L1 A2 c2 L2 A3 c3 L3 ∧ ((fun w' => (w'.cell? ⟨w.heap.size, 0, none⟩ = some (.slice As s.length cs) ∧ w'.cell? ⟨w.heap.size, 1, none⟩ = some (.slice Ar r.length cr) ∧ w'.cell? ⟨w.heap.size, 2, none⟩ = some (.slice Ah h.length ch)) ∧ (∃ u0 u1 u2, B3 (w.heap.size + 1) u0 u1 u2 w') ∧ Below w.heap.size w w')) W) ?_ ?_ 6 _ _ _ ⟨0, 0, 0, none, 0, [], none, 0, [], none, 0, [], undef, undef, undef, undef, undef, undef, rfl, rfl, rfl, .inl ⟨rfl, rfl, rfl, rfl⟩, .inl ⟨rfl, rfl, rfl, rfl⟩, .inl ⟨rfl, rfl, rfl, rfl⟩, hO0, hHeld⟩
  · rintro n l a W ⟨p, q, z, A1, c1, L1, A2, c2, L2, A3, c3, L3, u1, v1, u2, v2, u3, v3, hn, rfl, rfl, h1, h2, h3, hO, hHeld⟩
    refine ⟨?_, fun i o ho hi K hK => ?_⟩
    · rcases h1 with ⟨rfl, _⟩ | ⟨rfl, _⟩ | ⟨rfl, _⟩ <;> rcases h2 with ⟨rfl, _⟩ | ⟨rfl, _⟩ | ⟨rfl, _⟩ <;> rcases h3 with ⟨rfl, _⟩ | ⟨rfl, _⟩ | ⟨rfl, _⟩ <;> first | kernel_rfl | (exfalso; omega)
    · obtain ⟨hun, _⟩ := mem_ready.1 hi
      have hcont := List.contains_iff_mem.2 hi
      obtain ⟨⟨z0, z1, z2⟩, ⟨y0, y1, y2, hR⟩, hB⟩ := id hHeld
      have hRl := hR.lt
      have hi17 : i = 0 ∨ i = 1 ∨ i = 2 ∨ i = 3 ∨ i = 4 ∨ i = 5 ∨ i = 6 ∨ i = 7 ∨ i = 8 ∨ i = 9 ∨ i = 10 ∨ i = 11 ∨ i = 12 ∨ i = 13 := by
        have := (List.getElem?_eq_some_iff.1 ho).1
        simp only [List.length_cons, List.length_nil] at this
        omega
      rcases hi17 with rfl | rfl | rfl | rfl | rfl | rfl | rfl | rfl | rfl | rfl | rfl | rfl | rfl | rfl
      · rcases h1 with ⟨rfl, rfl, rfl, rfl⟩ | ⟨rfl, _⟩ | ⟨rfl, _⟩
        rotate_left
        · cases hun
        · cases hun
        obtain rfl := Option.some.inj ho
        clear ho hi hcont hun
        go_simp
        have hb : Below W.heap.size W (W.alloc (.cells #[] 33)) := (Below.refl _ _).alloc (Nat.le_refl _) _
        have hS' : ((fun w' => (w'.cell? ⟨w.heap.size, 0, none⟩ = some (.slice As s.length cs) ∧ w'.cell? ⟨w.heap.size, 1, none⟩ = some (.slice Ar r.length cr) ∧ w'.cell? ⟨w.heap.size, 2, none⟩ = some (.slice Ah h.length ch)) ∧ (∃ u0 u1 u2, B3 (w.heap.size + 1) u0 u1 u2 w') ∧ Below w.heap.size w w')) (W.alloc (.cells #[] 33)) := ⟨⟨keep hb z0, keep hb z1, keep hb z2⟩, ⟨_, _, _, hR.below hb⟩, Below.on' hB hb⟩
        exact hK.out _ _ hS' ⟨1, q, z, _, _, [], A2, c2, L2, A3, c3, L3, _, _, u2, v2, u3, v3, by omega, rfl, rfl, .inr (.inl ⟨rfl, rfl, rfl⟩), h2, h3, hO.made1 (Own.empty W (Nat.le_refl _)) hb (by omega), hS'⟩
      · cases hun
      · cases hun
      · rcases h1 with ⟨rfl, _⟩ | ⟨rfl, rfl, rfl⟩ | ⟨rfl, _⟩
        · exfalso
          rcases h2 with ⟨rfl, _⟩ | ⟨rfl, _⟩ | ⟨rfl, _⟩ <;> rcases h3 with ⟨rfl, _⟩ | ⟨rfl, _⟩ | ⟨rfl, _⟩ <;> exact absurd (hcont.symm.trans (by kernel_rfl : _ = false)) (by decide)
        rotate_left
        · cases hun
        obtain rfl := Option.some.inj ho
        clear ho hi hcont hun
        rw [if_pos (by rfl)]
        refine wp_append_all W (.tmp 3) (.tmp 5) _ rfl i0 _ _ Tryz.underlying24 hi0 hz0 hz1 hz2 rfl (by omega) Msg.len Msg.one hO.o1 (hSs.below hB) rfl rfl (by simp only [List.length_nil]; unfold maxLen; omega) (by simp only [List.length_nil]; omega) (by omega) ?_
        intro A c V hOw hb hk hd
        have hS' : ((fun w' => (w'.cell? ⟨w.heap.size, 0, none⟩ = some (.slice As s.length cs) ∧ w'.cell? ⟨w.heap.size, 1, none⟩ = some (.slice Ar r.length cr) ∧ w'.cell? ⟨w.heap.size, 2, none⟩ = some (.slice Ah h.length ch)) ∧ (∃ u0 u1 u2, B3 (w.heap.size + 1) u0 u1 u2 w') ∧ Below w.heap.size w w')) V := ⟨⟨(hb.cell (p := ⟨w.heap.size, 0, none⟩) (by simp)).trans z0, (hb.cell (p := ⟨w.heap.size, 1, none⟩) (by simp)).trans z1, (hb.cell (p := ⟨w.heap.size, 2, none⟩) (by simp)).trans z2⟩, ⟨_, _, _, hR.upto (by omega) hb⟩, hB.trans (hb.mono (by omega))⟩
        exact hK.out _ _ hS' ⟨2, q, z, A, c, [] ++ s, A2, c2, L2, A3, c3, L3, _, _, u2, v2, u3, v3, by omega, rfl, rfl, .inr (.inr ⟨rfl, List.nil_append _, rfl⟩), h2, h3, hO.push1 hOw hk hd, hS'⟩
      · rcases h2 with ⟨rfl, rfl, rfl, rfl⟩ | ⟨rfl, _⟩ | ⟨rfl, _⟩
        rotate_left
        · cases hun
        · cases hun
        obtain rfl := Option.some.inj ho
        clear ho hi hcont hun
        go_simp
        have hb : Below W.heap.size W (W.alloc (.cells #[] 33)) := (Below.refl _ _).alloc (Nat.le_refl _) _
        have hS' : ((fun w' => (w'.cell? ⟨w.heap.size, 0, none⟩ = some (.slice As s.length cs) ∧ w'.cell? ⟨w.heap.size, 1, none⟩ = some (.slice Ar r.length cr) ∧ w'.cell? ⟨w.heap.size, 2, none⟩ = some (.slice Ah h.length ch)) ∧ (∃ u0 u1 u2, B3 (w.heap.size + 1) u0 u1 u2 w') ∧ Below w.heap.size w w')) (W.alloc (.cells #[] 33)) := ⟨⟨keep hb z0, keep hb z1, keep hb z2⟩, ⟨_, _, _, hR.below hb⟩, Below.on' hB hb⟩
        exact hK.out _ _ hS' ⟨p, 1, z, A1, c1, L1, _, _, [], A3, c3, L3, u1, v1, _, _, u3, v3, by omega, rfl, rfl, h1, .inr (.inl ⟨rfl, rfl, rfl⟩), h3, hO.made2 (Own.empty W (Nat.le_refl _)) hb (by omega), hS'⟩
      · cases hun
      · cases hun
      · rcases h2 with ⟨rfl, _⟩ | ⟨rfl, rfl, rfl⟩ | ⟨rfl, _⟩
        · exfalso
          rcases h1 with ⟨rfl, _⟩ | ⟨rfl, _⟩ | ⟨rfl, _⟩ <;> rcases h3 with ⟨rfl, _⟩ | ⟨rfl, _⟩ | ⟨rfl, _⟩ <;> exact absurd (hcont.symm.trans (by kernel_rfl : _ = false)) (by decide)
        rotate_left
        · cases hun
        obtain rfl := Option.some.inj ho
        clear ho hi hcont hun
        rw [if_pos (by rfl)]
        refine wp_append_all W (.tmp 7) (.tmp 9) _ rfl i0 _ _ Tryz.underlying24 hi0 hz0 hz1 hz2 rfl (by omega) Msg.len Msg.one hO.o2 (hSr.below hB) rfl rfl (by simp only [List.length_nil]; unfold maxLen; omega) (by simp only [List.length_nil]; omega) (by omega) ?_
        intro A c V hOw hb hk hd
        have hS' : ((fun w' => (w'.cell? ⟨w.heap.size, 0, none⟩ = some (.slice As s.length cs) ∧ w'.cell? ⟨w.heap.size, 1, none⟩ = some (.slice Ar r.length cr) ∧ w'.cell? ⟨w.heap.size, 2, none⟩ = some (.slice Ah h.length ch)) ∧ (∃ u0 u1 u2, B3 (w.heap.size + 1) u0 u1 u2 w') ∧ Below w.heap.size w w')) V := ⟨⟨(hb.cell (p := ⟨w.heap.size, 0, none⟩) (by simp)).trans z0, (hb.cell (p := ⟨w.heap.size, 1, none⟩) (by simp)).trans z1, (hb.cell (p := ⟨w.heap.size, 2, none⟩) (by simp)).trans z2⟩, ⟨_, _, _, hR.upto (by omega) hb⟩, hB.trans (hb.mono (by omega))⟩
        exact hK.out _ _ hS' ⟨p, 2, z, A1, c1, L1, A, c, [] ++ r, A3, c3, L3, u1, v1, _, _, u3, v3, by omega, rfl, rfl, h1, .inr (.inr ⟨rfl, List.nil_append _, rfl⟩), h3, hO.push2 hOw hk hd, hS'⟩
      · rcases h3 with ⟨rfl, rfl, rfl, rfl⟩ | ⟨rfl, _⟩ | ⟨rfl, _⟩
        rotate_left
        · cases hun
        · cases hun
        obtain rfl := Option.some.inj ho
        clear ho hi hcont hun
        go_simp
        have hb : Below W.heap.size W (W.alloc (.cells #[] 33)) := (Below.refl _ _).alloc (Nat.le_refl _) _
        have hS' : ((fun w' => (w'.cell? ⟨w.heap.size, 0, none⟩ = some (.slice As s.length cs) ∧ w'.cell? ⟨w.heap.size, 1, none⟩ = some (.slice Ar r.length cr) ∧ w'.cell? ⟨w.heap.size, 2, none⟩ = some (.slice Ah h.length ch)) ∧ (∃ u0 u1 u2, B3 (w.heap.size + 1) u0 u1 u2 w') ∧ Below w.heap.size w w')) (W.alloc (.cells #[] 33)) := ⟨⟨keep hb z0, keep hb z1, keep hb z2⟩, ⟨_, _, _, hR.below hb⟩, Below.on' hB hb⟩
        exact hK.out _ _ hS' ⟨p, q, 1, A1, c1, L1, A2, c2, L2, _, _, [], u1, v1, u2, v2, _, _, by omega, rfl, rfl, h1, h2, .inr (.inl ⟨rfl, rfl, rfl⟩), hO.made3 (Own.empty W (Nat.le_refl _)) hb (by omega), hS'⟩
      · cases hun
      · cases hun
      · rcases h3 with ⟨rfl, _⟩ | ⟨rfl, rfl, rfl⟩ | ⟨rfl, _⟩
        · exfalso
          rcases h1 with ⟨rfl, _⟩ | ⟨rfl, _⟩ | ⟨rfl, _⟩ <;> rcases h2 with ⟨rfl, _⟩ | ⟨rfl, _⟩ | ⟨rfl, _⟩ <;> exact absurd (hcont.symm.trans (by kernel_rfl : _ = false)) (by decide)
        rotate_left
        · cases hun
        obtain rfl := Option.some.inj ho
        clear ho hi hcont hun
        rw [if_pos (by rfl)]
        refine wp_append_all W (.tmp 11) (.tmp 13) _ rfl i0 _ _ Tryz.underlying24 hi0 hz0 hz1 hz2 rfl (by omega) Msg.len Msg.one hO.o3 (hSh.below hB) rfl rfl (by simp only [List.length_nil]; unfold maxLen; omega) (by simp only [List.length_nil]; omega) (by omega) ?_
        intro A c V hOw hb hk hd
        have hS' : ((fun w' => (w'.cell? ⟨w.heap.size, 0, none⟩ = some (.slice As s.length cs) ∧ w'.cell? ⟨w.heap.size, 1, none⟩ = some (.slice Ar r.length cr) ∧ w'.cell? ⟨w.heap.size, 2, none⟩ = some (.slice Ah h.length ch)) ∧ (∃ u0 u1 u2, B3 (w.heap.size + 1) u0 u1 u2 w') ∧ Below w.heap.size w w')) V := ⟨⟨(hb.cell (p := ⟨w.heap.size, 0, none⟩) (by simp)).trans z0, (hb.cell (p := ⟨w.heap.size, 1, none⟩) (by simp)).trans z1, (hb.cell (p := ⟨w.heap.size, 2, none⟩) (by simp)).trans z2⟩, ⟨_, _, _, hR.upto (by omega) hb⟩, hB.trans (hb.mono (by omega))⟩
        exact hK.out _ _ hS' ⟨p, q, 2, A1, c1, L1, A2, c2, L2, A, c, [] ++ h, u1, v1, u2, v2, _, _, by omega, rfl, rfl, h1, h2, .inr (.inr ⟨rfl, List.nil_append _, rfl⟩), hO.push3 hOw hk hd, hS'⟩
      · exfalso
        rcases h1 with ⟨rfl, _⟩ | ⟨rfl, _⟩ | ⟨rfl, _⟩ <;> rcases h2 with ⟨rfl, _⟩ | ⟨rfl, _⟩ | ⟨rfl, _⟩ <;> rcases h3 with ⟨rfl, _⟩ | ⟨rfl, _⟩ | ⟨rfl, _⟩ <;> first | omega | exact absurd (hcont.symm.trans (by kernel_rfl : _ = false)) (by decide)
      · exfalso
        rcases h1 with ⟨rfl, _⟩ | ⟨rfl, _⟩ | ⟨rfl, _⟩ <;> rcases h2 with ⟨rfl, _⟩ | ⟨rfl, _⟩ | ⟨rfl, _⟩ <;> rcases h3 with ⟨rfl, _⟩ | ⟨rfl, _⟩ | ⟨rfl, _⟩ <;> first | omega | exact absurd (hcont.symm.trans (by kernel_rfl : _ = false)) (by decide)
  · rintro l a W ⟨p, q, z, A1, c1, L1, A2, c2, L2, A3, c3, L3, u1, v1, u2, v2, u3, v3, hn, rfl, rfl, h1, h2, h3, hO, hHeld⟩
    obtain ⟨rfl, rfl, rfl⟩ : p = 2 ∧ q = 2 ∧ z = 2 := by rcases h1 with ⟨rfl, _⟩ | ⟨rfl, _⟩ | ⟨rfl, _⟩ <;> rcases h2 with ⟨rfl, _⟩ | ⟨rfl, _⟩ | ⟨rfl, _⟩ <;> rcases h3 with ⟨rfl, _⟩ | ⟨rfl, _⟩ | ⟨rfl, _⟩ <;> omega
    rcases h1 with ⟨h, _⟩ | ⟨h, _⟩ | ⟨_, rfl, rfl⟩
    · cases h
    · cases h
    rcases h2 with ⟨h, _⟩ | ⟨h, _⟩ | ⟨_, rfl, rfl⟩
    · cases h
    · cases h
    rcases h3 with ⟨h, _⟩ | ⟨h, _⟩ | ⟨_, rfl, rfl⟩
    · cases h
    · cases h
    change wpAnyH _ _ _ _ _ _ #[true, true, true, true, true, true, true, true, true, true, true, true, false, false] _ _
    refine wpAnyH_takeL (i := 12) (v := .agg #[.slice A1 L1.length c1, .slice A2 L2.length c2, .slice A3 L3.length c3]) rfl (by kernel_rfl) (by kernel_rfl) (by kernel_rfl) (fun _ _ _ h => h) (Or.inl ⟨by rfl, fun w' hSw => by obtain ⟨⟨z0, z1, z2⟩, _⟩ := hSw; go_simp⟩) (by assumption) ?_
    simp only [Act.put, List.setIfInBounds_toArray, List.set_cons_zero, List.set_cons_succ]
    refine wpAnyH_ready (rs := [13]) (by kernel_rfl) (by simp) ?_
    refine AllReadyH.consL rfl (fun K hK => ?_) AllReadyH.nil
    obtain ⟨⟨z0, z1, z2⟩, ⟨y0, y1, y2, hR⟩, hB⟩ := id hHeld
    obtain ⟨k0, k1, k2, f0, f1, f2⟩ := id hR
    go_simp
    have hRl := hR.lt
    have hF : Fr ((w.heap.size + 1)) ((w.heap.size + 1) + 1) W (((W.setCell ⟨(w.heap.size + 1), 0, none⟩ (.slice A1 L1.length c1)).setCell ⟨(w.heap.size + 1), 1, none⟩ (.slice A2 L2.length c2)).setCell ⟨(w.heap.size + 1), 2, none⟩ (.slice A3 L3.length c3)) := (((Fr.refl _ _ _).setCell ⟨by simp, by simp⟩ _).setCell ⟨by simp, by simp⟩ _).setCell ⟨by simp, by simp⟩ _
    have hB' := hB.trans (hF.below (B := w.heap.size) (by omega) (by omega))
    have hO' := (hO.far hF (by omega)).lift (b0 := w.heap.size) (by omega)
    have hR' := ((hR.set0 (.slice A1 L1.length c1)).set1 (.slice A2 L2.length c2)).set2 (.slice A3 L3.length c3)
    refine hK.out _ _ ⟨⟨(unset (unset (unset z0 (by simp)) (by simp)) (by simp)), (unset (unset (unset z1 (by simp)) (by simp)) (by simp)), (unset (unset (unset z2 (by simp)) (by simp)) (by simp))⟩, ⟨_, _, _, hR'⟩, hB'⟩ (fun _ => ?_)
    obtain ⟨x0, x1, x2, _, _, _⟩ := id hR'
    refine wpAnyH_done (by kernel_rfl) ?_ _
    go_wp2
    refine bodyPost_ret (by simp [results, Tryz.results112, go_sem, x0, x1, x2]; try rfl) rfl ?_
    exact ⟨A1, c1, A2, c2, A3, c3, rfl, hO', hB'⟩
end Go.Proofs.YtjmjilkpckbpeaaGreatDoor
namespace Go.Proofs.YtjmjilkpckbpeaaGreatDoor
open Go.RowKit Go.WideMaps Go.Maps

/-- The map counts the names of l. -/
def CntD (D : DataW Unit) (l : List Msg) : Prop := IsMap D ∧ ∀ f : ByteArray, D.atKey (.string f.data.toList) (.lit (.int .i64 0)) = .lit (.int .i64 (cntM l f))
theorem CntD.step {D : DataW Unit} {l l' : List Msg} {xf : ByteArray} {v : Nat} (hD : CntD D l) (hv : cntM l xf = v) (hs : ∀ f : ByteArray, (cntM l' f : Int) = cntM l f + if xf.toList = f.toList then 1 else 0) : CntD (D.put (.string xf.data.toList) (.lit (.int .i64 ((v : Int) + 1)))) l' := by
  refine ⟨hD.1.put _ _, fun f => ?_⟩
  by_cases h : xf.toList = f.toList
  · obtain rfl := toList_inj h
    rw [atKey_put_same hD.1 (show WideAt.IsKeyLit (.string _) from trivial), hs, if_pos rfl, hv]
  · have hne : (Lit.string f.data.toList) ≠ .string xf.data.toList := by
      intro e
      injection e with e
      rw [Go.ByteArray.toList_eq, Go.ByteArray.toList_eq] at h
      exact h e.symm
    rw [atKey_put_other hne, hD.2 f, hs, if_neg h, Int.add_zero]
theorem B3.grown {b : Nat} {x y z : Value} {X X' : World} {row : Option Nat} (a : B3 b x y z X) (hg : X.grownBy X' row) (hne : some b ≠ row) : B3 b x y z X' := a.same (hg.block b a.lt hne)
theorem keyLaw : Keyed Tryz.prog 9 := string_keyed Tryz.underlying9
theorem zeroInt (w : World) : (zeroValue 3).run Tryz.prog w = .ok (.int .i64 0) w := by kernel_rfl
set_option maxRecDepth 100000 in
set_option maxHeartbeats 8000000 in
theorem isChannel_any (pb po : Nat) (As : Option Addr) (cs : Nat) (s : List Msg) (Ar : Option Addr) (cr : Nat) (r : List Msg) (Ah : Option Addr) (ch : Nat) (h : List Msg) (w : World) (hX : C3 pb po (.slice As s.length cs) (.slice Ar r.length cr) (.slice Ah h.length ch) w) (hls : s.length ≤ 1048576) (hms : ∀ y ∈ s, y.f.size ≤ 1048576 ∧ y.b.size ≤ 1048576) (hSs : Msgs w 0 w.heap.size As s) (_hcs : s.length ≤ cs) (hlr : r.length ≤ 1048576) (_hmr : ∀ y ∈ r, y.f.size ≤ 1048576 ∧ y.b.size ≤ 1048576) (hSr : Msgs w 0 w.heap.size Ar r) (hcr : r.length ≤ cr) (hlh : h.length ≤ 1048576) (_hmh : ∀ y ∈ h, y.f.size ≤ 1048576 ∧ y.b.size ≤ 1048576) (hSh : Msgs w 0 w.heap.size Ah h) (hch : h.length ≤ ch) :
    Calls Tryz.prog 64 #[.pointer (some ⟨pb, po, none⟩)] w (RV w (.bool (chanB s r h))) := by
  have hmm := @run_makeMap Tryz.prog
  have hX0 := hX.alloc (.map #[] 0)
  have hB0 : Below w.heap.size w (w.alloc (.map #[] 0)) := by go_grown
  have hM0 := World.ownsMap_made w Tryz.prog 9 (plainElem (H := Unit) Tryz.prog 3)
  have hD0 : CntD (.map []) (s.take 0) := ⟨isMap_empty, fun f => rfl⟩
  obtain ⟨b0, b1, b2, _, _, _⟩ := id hX0
  have hpb := hX.lt
  go_enter Tryz.func64, Tryz.ntmps64
  go_wp2_with fail
  go_loopw [12] (fun i wr => ∃ (k : Nat) (D : DataW Unit), k ≤ s.length ∧ i = .int .i64 k ∧ Hid (∀ i, i < k → sentAt s i = true) ∧ wr.ownsMap Tryz.prog 9 (plainElem Tryz.prog 3) w.heap.size k D ∧ CntD D (s.take k) ∧ C3 pb po (.slice As s.length cs) (.slice Ar r.length cr) (.slice Ah h.length ch) wr ∧ Below w.heap.size w wr) (fun i _ => s.length - (intOf i).toNat)
  case atStart => exact ⟨0, _, Nat.zero_le _, rfl, Lib.hid (fun i hi => absurd hi (Nat.not_lt_zero i)), hM0, hD0, hX0, hB0⟩
  case round =>
    obtain ⟨k, D, hk, rfl, HX, hM, hD, hX, hB⟩ := hrel
    clear hX0 b0 b1 b2 hM0 hD0 hB0
    have hz := hB.size
    by_cases hlt : k < s.length
    · obtain ⟨⟨xf, xn, xb⟩, hx, hxM⟩ := get_lt hlt
      have HE := Lib.hid (sentAt_eq hx)
      obtain ⟨hxf, hxb⟩ := hms _ hxM
      have hSr := (hSs.below hB)
      obtain ⟨b, off, rfl, _, _, _, hf⟩ := hSr.at_ hx
      have c0 : wr.cell? ⟨b, off + k * 3, none⟩ = some (.string xf) := (hf 0 _ rfl).1
      have c1 : wr.cell? ⟨b, off + k * 3 + 1, none⟩ = some (.int .i64 xn) := (hf 1 _ rfl).1
      have c2 : wr.cell? ⟨b, off + k * 3 + 2, none⟩ = some (.string xb) := (hf 2 _ rfl).1
      clear hf hxM hSr
      have hkey : keyOf Tryz.prog 9 (.string xf) = some (.string xf.data.toList) := keyOf_string_mk Tryz.underlying9 (by unfold maxLen; exact Nat.le_trans hxf (by omega))
      have hMl := hM.lt
      have hMV := hM.alloc (.cells #[.string xf, .int .i64 xn, .string xb] 33)
      obtain ⟨c, hrun, hat, _⟩ := hMV.lookup_int keyLaw Tryz.underlying136 Tryz.underlying3 (zeroInt _) hkey
      obtain rfl : c = cntM (s.take k) xf := by have := hat.symm.trans (hD.2 xf); simpa using this
      have hcv : cntM (s.take k) xf ≤ 1048576 := by have := cntM_le (s.take k) xf; rw [List.length_take] at this; omega
      have hS1 := Lib.hid (fun f => cntM_step hx f)
      clear hx
      generalize hv : cntM (s.take k) xf = v at HE hat hrun hcv
      have hw : IntKind.i64.wrap ((v : Int) + 1) = (v : Int) + 1 := IntWalk.i64_in _ (by omega)
      have hwf : (Lit.int .i64 ((v : Int) + 1)).wf = true := by simp only [Lit.wf, IntKind.min, IntKind.max, IntKind.signed, IntKind.bits, Bool.and_eq_true, decide_eq_true_eq, if_true]; omega
      have hkm : k < maxLen := by unfold maxLen; omega
      go_wp2_with (first
        | (at_mapUpdate; refine wpList_mapUpdate_own _ rfl _ _ _ 136 rfl 9 3 keyLaw Tryz.underlying136 _ w.heap.size k _ rfl hMV hkm _ _ _ rfl rfl hkey _ [] (plainElem_int Tryz.underlying3 hwf) ?_)
        | fail)
      intro w1 hown1 hgrow1
      have WD := hD
      have hD1 := hD.step hv hS1.out
      have hY := (B3.new wr (.string xf) (.int .i64 xn) (.string xb) 33 _ rfl).grown hgrow1 (by simp; omega)
      have hX1 := (hX.alloc (.cells #[.string xf, .int .i64 xn, .string xb] 33)).grown hgrow1 (by simp; omega)
      have hB1 : Below w.heap.size w w1 := (hB.alloc hz (.cells #[.string xf, .int .i64 xn, .string xb] 33)).grown hgrow1 (by simp; omega) (fun j hj => by cases hj; exact Nat.le_refl _)
      clear hM hMV hrun hat hD hX hB hgrow1 c0 c1 c2 hkm hwf hS1 hcv
      obtain ⟨d0, d1, d2, _, _, _⟩ := id hY
      go_wp2_with fail
      refine (isMessage_any ⟨xf, xn, xb⟩ _ hxf hxb).mono ?_
      rintro e w2 ⟨rfl, hb⟩
      replace hY := hY.below hb
      have hX2 := hX1.below hb
      have hB2 := Below.on' hB1 hb
      have hown2 := hown1.kept (row := none) ⟨hb.os, hb.tape, hb.output, hb.size, fun b h _ => hb.block b h⟩ (by simp)
      obtain ⟨c, hrun, hat, _⟩ := hown2.lookup_int keyLaw Tryz.underlying136 Tryz.underlying3 (zeroInt _) hkey
      obtain rfl : c = (v : Int) + 1 := by have := hat.symm.trans (atKey_put_same WD.1 (show WideAt.IsKeyLit (.string _) from trivial) _ _); simpa using this
      clear d0 d1 d2 hown1 hX1 hB1 hb hat
      obtain ⟨d0, d1, d2, _, _, _⟩ := id hY
      by_cases g1 : msgB ⟨xf, xn, xb⟩ = true
      rotate_left
      · have g1 : msgB ⟨xf, xn, xb⟩ = false := by simpa using g1
        have HF : Hid (chanB s r h = false) := Lib.hid (by rw [chanB, sentB, upto_no hlt (by rw [HE.out, g1]; rfl)]; rfl)
        rw [g1]
        clear HE HX g1 hown2
        go_wp2
        go_ret
        exact RV.mk (by rw [HF.out]; rfl) hB2
      by_cases g2 : xn = (v : Int) + 1
      · have HX' := Lib.hid (upto_step HX.out (by rw [HE.out, g1, g2]; simp))
        rw [g1]
        clear HE HX g1
        subst g2
        go_wp2
        go_roundw
        case rel => exact ⟨k + 1, _, by omega, by go_num, HX', hown2, hD1, hX2, hB2⟩
        case measure => simp [intOf]; omega
      · have HF : Hid (chanB s r h = false) := Lib.hid (by rw [chanB, sentB, upto_no hlt (by rw [HE.out, g1]; simpa using g2)]; rfl)
        rw [g1]
        clear HE HX g1 hown2 hD1 hX2 hw
        generalize (v : Int) + 1 = q at *
        go_wp2
        go_ret
        exact RV.mk (by rw [HF.out]; rfl) hB2
    · obtain rfl : k = s.length := by omega
      have HS : Hid (sentB s = true) := Lib.hid (upto_all HX.out)
      clear HX
      obtain ⟨x0, x1, x2, _, _, _⟩ := id hX
      have hcls : ∀ W, Below wr.heap.size wr W → W.cell? ⟨pb, po, none⟩ = some (.slice As s.length cs) ∧ W.cell? ⟨pb, po + 1, none⟩ = some (.slice Ar r.length cr) ∧ W.cell? ⟨pb, po + 2, none⟩ = some (.slice Ah h.length ch) := fun W hb => ⟨keep hb x0, keep hb x1, keep hb x2⟩
      have HM : ∀ W, Below wr.heap.size wr W → Calls Tryz.prog 130 #[.slice Ar r.length cr, .slice As s.length cs] W (RV W (.bool (someB r s))) := fun W hb => areSome_any Ar cr r As cs s W hlr hcr (hSr.below (Below.on' hB hb)).all hls (hSs.below (Below.on' hB hb)).all
      have HN : ∀ W, Below wr.heap.size wr W → Calls Tryz.prog 130 #[.slice Ah h.length ch, .slice Ar r.length cr] W (RV W (.bool (someB h r))) := fun W hb => areSome_any Ah ch h Ar cr r W hlh hch (hSh.below (Below.on' hB hb)).all hlr (hSr.below (Below.on' hB hb)).all
      clear hX x0 x1 x2 hM hD
      by_cases g3 : (s.length : Int) ≤ 30
      rotate_left
      · have HF : Hid (chanB s r h = false) := Lib.hid (by
          have : decide (s.length ≤ 30) = false := by simp; omega
          rw [chanB, this]; simp)
        have hd : decide ((s.length : Int) ≤ 30) = false := by simpa using g3
        go_wp2_with fail
        refine wp_region_quiet (C := fun w' => Below wr.heap.size wr w') (by kernel_rfl) (by kernel_rfl) ((Below.refl _ _).drew) ?_
        dsimp only [Array.toList]
        iterate 29
          with_reducible refine wpQuiet_step (fun K hK => ?_)
          go_simp
          first
            | (refine hK _ ?_; clear hK K)
            | (apply Exists.intro
               refine ⟨fun w' hw' => ?_, hK _ ?_⟩
               · obtain ⟨z0, z1, z2⟩ := hcls w' hw'
                 have M1 := HM w' hw'
                 have M2 := HN w' hw'
                 go_simp
                 first
                   | rfl
                   | ((with_reducible (refine M1.mono ?_)); rintro e w1 ⟨rfl, hb⟩; exact ⟨rfl, hw'.trans (hb.mono hw'.size)⟩)
                   | ((with_reducible (refine M2.mono ?_)); rintro e w1 ⟨rfl, hb⟩; exact ⟨rfl, hw'.trans (hb.mono hw'.size)⟩)
               clear hK K)
        refine wpQuiet_nil ?_
        intro W2 hW2
        have hB2 : Below w.heap.size w W2 := Below.on' hB hW2
        clear hcls HM HN hW2
        go_wp2
        go_ret
        exact RV.mk (by rw [HF.out]; rfl) hB2
      have H3 : Hid (chanB s r h = (someB r s && someB h r)) := Lib.hid (by
        have : decide (s.length ≤ 30) = true := by simp; omega
        rw [chanB, this, HS.out]; simp)
      by_cases g4 : someB r s = true
      rotate_left
      · have g4 : someB r s = false := by simpa using g4
        have HF : Hid (chanB s r h = false) := Lib.hid (by rw [H3.out, g4]; rfl)
        rw [g4] at HM
        go_wp2_with fail
        refine wp_region_quiet (C := fun w' => Below wr.heap.size wr w') (by kernel_rfl) (by kernel_rfl) ((Below.refl _ _).drew) ?_
        dsimp only [Array.toList]
        iterate 29
          with_reducible refine wpQuiet_step (fun K hK => ?_)
          go_simp
          first
            | (refine hK _ ?_; clear hK K)
            | (apply Exists.intro
               refine ⟨fun w' hw' => ?_, hK _ ?_⟩
               · obtain ⟨z0, z1, z2⟩ := hcls w' hw'
                 have M1 := HM w' hw'
                 have M2 := HN w' hw'
                 go_simp
                 first
                   | rfl
                   | ((with_reducible (refine M1.mono ?_)); rintro e w1 ⟨rfl, hb⟩; exact ⟨rfl, hw'.trans (hb.mono hw'.size)⟩)
                   | ((with_reducible (refine M2.mono ?_)); rintro e w1 ⟨rfl, hb⟩; exact ⟨rfl, hw'.trans (hb.mono hw'.size)⟩)
               clear hK K)
        refine wpQuiet_nil ?_
        intro W2 hW2
        have hB2 : Below w.heap.size w W2 := Below.on' hB hW2
        clear hcls HM HN hW2
        go_wp2
        go_ret
        exact RV.mk (by rw [HF.out]; rfl) hB2
      have HF : Hid (chanB s r h = someB h r) := Lib.hid (by rw [H3.out, g4]; rfl)
      rw [g4] at HM
      cases g5 : someB h r with
      | false =>
        rw [g5] at HN HF
        go_wp2_with fail
        refine wp_region_quiet (C := fun w' => Below wr.heap.size wr w') (by kernel_rfl) (by kernel_rfl) ((Below.refl _ _).drew) ?_
        dsimp only [Array.toList]
        iterate 29
          with_reducible refine wpQuiet_step (fun K hK => ?_)
          go_simp
          first
            | (refine hK _ ?_; clear hK K)
            | (apply Exists.intro
               refine ⟨fun w' hw' => ?_, hK _ ?_⟩
               · obtain ⟨z0, z1, z2⟩ := hcls w' hw'
                 have M1 := HM w' hw'
                 have M2 := HN w' hw'
                 go_simp
                 first
                   | rfl
                   | ((with_reducible (refine M1.mono ?_)); rintro e w1 ⟨rfl, hb⟩; exact ⟨rfl, hw'.trans (hb.mono hw'.size)⟩)
                   | ((with_reducible (refine M2.mono ?_)); rintro e w1 ⟨rfl, hb⟩; exact ⟨rfl, hw'.trans (hb.mono hw'.size)⟩)
               clear hK K)
        refine wpQuiet_nil ?_
        intro W2 hW2
        have hB2 : Below w.heap.size w W2 := Below.on' hB hW2
        clear hcls HM HN hW2
        go_wp2
        go_ret
        exact RV.mk (by rw [HF.out]; rfl) hB2
      | true =>
        rw [g5] at HN HF
        go_wp2_with fail
        refine wp_region_quiet (C := fun w' => Below wr.heap.size wr w') (by kernel_rfl) (by kernel_rfl) ((Below.refl _ _).drew) ?_
        dsimp only [Array.toList]
        iterate 29
          with_reducible refine wpQuiet_step (fun K hK => ?_)
          go_simp
          first
            | (refine hK _ ?_; clear hK K)
            | (apply Exists.intro
               refine ⟨fun w' hw' => ?_, hK _ ?_⟩
               · obtain ⟨z0, z1, z2⟩ := hcls w' hw'
                 have M1 := HM w' hw'
                 have M2 := HN w' hw'
                 go_simp
                 first
                   | rfl
                   | ((with_reducible (refine M1.mono ?_)); rintro e w1 ⟨rfl, hb⟩; exact ⟨rfl, hw'.trans (hb.mono hw'.size)⟩)
                   | ((with_reducible (refine M2.mono ?_)); rintro e w1 ⟨rfl, hb⟩; exact ⟨rfl, hw'.trans (hb.mono hw'.size)⟩)
               clear hK K)
        refine wpQuiet_nil ?_
        intro W2 hW2
        have hB2 : Below w.heap.size w W2 := Below.on' hB hW2
        clear hcls HM HN hW2
        go_wp2
        go_ret
        exact RV.mk (by rw [HF.out]; rfl) hB2
end Go.Proofs.YtjmjilkpckbpeaaGreatDoor
namespace Go.Proofs.YtjmjilkpckbpeaaGreatDoor
open Go.RowKit

/-- A message added to a list if none there has its name and number. -/
def addW (l : List Msg) (m : Msg) : List Msg := if l.any (keyP m.f m.n) = true then l else l ++ [m]
set_option maxRecDepth 100000 in
set_option maxHeartbeats 8000000 in
theorem raDeliver_any (As : Option Addr) (cs : Nat) (s : List Msg) (Ar : Option Addr) (cr : Nat) (r : List Msg) (Ah : Option Addr) (ch : Nat) (h : List Msg) (w : World) (hls : s.length ≤ 1048576) (hSs : Msgs w 0 w.heap.size As s) (hlr : r.length ≤ 1048576) (hSr : Msgs w 0 w.heap.size Ar r) (hlh : h.length ≤ 1048576) (hSh : Msgs w 0 w.heap.size Ah h) (i : Nat) (m : Msg) (hm : s[i]? = some m) :
    Calls Tryz.prog 70 #[.agg #[.slice As s.length cs, .slice Ar r.length cr, .slice Ah h.length ch], .int .i64 i] w (RC w s (addW r m) h) := by
  obtain ⟨i0, hi0, hz0, hz1, hz2⟩ := info_parts Msg.info
  generalize hL : addW r m = L
  replace hL := Lib.hid hL
  have e1 : (w.alloc (.cells #[.slice As s.length cs, .slice Ar r.length cr, .slice Ah h.length ch] 26)).heap.size = w.heap.size + 1 := by simp
  have hlo : ((w.alloc (.cells #[.slice As s.length cs, .slice Ar r.length cr, .slice Ah h.length ch] 26)).alloc (.cells #[.slice none 0 0, .slice none 0 0, .slice none 0 0] 26)).heap.size = w.heap.size + 2 := by simp
  have hX := (B3.new w (.slice As s.length cs) (.slice Ar r.length cr) (.slice Ah h.length ch) 26 _ rfl).alloc (.cells #[.slice none 0 0, .slice none 0 0, .slice none 0 0] 26)
  have hR := B3.new (w.alloc (.cells #[.slice As s.length cs, .slice Ar r.length cr, .slice Ah h.length ch] 26)) (.slice none 0 0) (.slice none 0 0) (.slice none 0 0) 26 (w.heap.size + 1) e1.symm
  have hil : i < s.length := (List.getElem?_eq_some_iff.1 hm).1
  obtain ⟨b0, b1, b2, _, _, _⟩ := id hX
  go_enter Tryz.func70, Tryz.ntmps70
  go_wp2_with fail
  refine (raOwn_any As cs s Ar cr r Ah ch h _ hls ((hSs.alloc _).alloc _).all hlr ((hSr.alloc _).alloc _).all hlh ((hSh.alloc _).alloc _).all).mono ?_
  rintro e v1 ⟨A1, c1, A2, c2, A3, c3, rfl, hO, hb⟩
  have hB1 : Below w.heap.size w v1 := Below.on' (by go_grown) hb
  replace hX := hX.below hb
  replace hR := hR.below hb
  rw [hlo] at hO
  have hz1' : w.heap.size + 2 ≤ v1.heap.size := by have := hb.size; omega
  clear b0 b1 b2 e1 hlo hb
  obtain ⟨b0, b1, b2, _, _, _⟩ := id hX
  have hSx := (hSs.below hB1)
  obtain ⟨b, off, rfl, _, kb, _, hf⟩ := hSx.at_ hm
  have k1 : w.heap.size < v1.heap.size := by omega
  have k2 : b < v1.heap.size := by omega
  have d0 : v1.cell? ⟨b, off + i * 3, none⟩ = some (.string m.f) := (hf 0 _ rfl).1
  have d1 : v1.cell? ⟨b, off + i * 3 + 1, none⟩ = some (.int .i64 m.n) := (hf 1 _ rfl).1
  have d2 : v1.cell? ⟨b, off + i * 3 + 2, none⟩ = some (.string m.b) := (hf 2 _ rfl).1
  clear hf hSx hm
  have hBV : Below v1.heap.size v1 ((v1.alloc (.cells #[.slice A1 s.length c1, .slice A2 r.length c2, .slice A3 h.length c3] 26)).alloc (.cells #[.string m.f, .int .i64 m.n, .string m.b] 33)) := by go_grown
  have e2 : (v1.alloc (.cells #[.slice A1 s.length c1, .slice A2 r.length c2, .slice A3 h.length c3] 26)).heap.size = v1.heap.size + 1 := by simp
  have hY := (B3.new v1 (.slice A1 s.length c1) (.slice A2 r.length c2) (.slice A3 h.length c3) 26 _ rfl).alloc (.cells #[.string m.f, .int .i64 m.n, .string m.b] 33)
  have hM := B3.new (v1.alloc (.cells #[.slice A1 s.length c1, .slice A2 r.length c2, .slice A3 h.length c3] 26)) (.string m.f) (.int .i64 m.n) (.string m.b) 33 (v1.heap.size + 1) e2.symm
  go_wp2_with fail
  refine (raFind_any _ _ r m.f m.n _ hlr ((hSr.below hB1).below hBV).all).mono ?_
  rintro e v2 ⟨rfl, hb⟩
  have hB := (Below.on' hB1 hBV).trans (hb.mono (by have := hB1.size; simp; omega))
  have hd1 := dis_lt hO.o1.blk
  have hd2 := dis_lt hO.o2.blk
  have hd3 := dis_lt hO.o3.blk
  replace hX := (hX.below hBV).below hb
  replace hR := (hR.below hBV).below hb
  replace hY := hY.below hb
  replace hM := hM.below hb
  replace hO := (hO.below hBV).below hb
  have hz2' := hM.lt
  have k3 := hY.lt
  clear b0 b1 b2 d0 d1 d2 hB1 hBV hb e2 hX
  obtain ⟨y0, y1, y2, _, _, _⟩ := id hY
  rcases find_idx (keyP m.f m.n) r 0 with ⟨e1, hf⟩ | ⟨j, y, hj, e1, hf, hy⟩
  · rw [e1]
    have hA : Hid (r ++ [m] = L) := Lib.hid (by
      have := hL.out
      rw [addW, if_neg] at this
      · exact this
      · rw [← idxG_any, e1]; decide)
    clear hL e1 hf
    obtain ⟨g0, g1, g2, g3, g4, g5⟩ := id hM
    obtain ⟨_, _, _, f0, f1, f2⟩ := id hY
    go_wp2_with (at_builtin; refine wpList_append_one2 _ rfl (.tmp 23) (.tmp 25) _ rfl i0 _ _ Tryz.underlying24 hi0 hz0 hz1 hz2 rfl (by omega) Msg.len Msg.one m _ (hO.o2.alloc _) rfl rfl (new_cells _ _ _ _ rfl) (by unfold maxLen; first | omega | (simp; omega)) (by first | omega | (simp; omega)) (by simp; omega) ?_; intro A' c' w' L' hL' hOw hbw hbut hd; have hO3 := (hO.below ((Below.refl _ _).alloc (Nat.le_refl _) _)).push2 hOw hbut hd; have hY3 := (hY.alloc _).same (hbut _ (hY.alloc _).lt (fun a ha => hd2 a _ ha rfl)); have hR3 := (hR.alloc _).upto (by omega) hbw; have hB3 := (hB.alloc hB.size _).trans (hbw.mono (by omega)); have hdN := hd (some ⟨v1.heap.size, 0, none⟩) hd2 (fun a ha => by injection ha with ha; subst ha; simp; omega); have hFg : Fr v1.heap.size (v1.heap.size + 1) w' (w'.setCell ⟨v1.heap.size, 1, none⟩ (.slice A' L'.length c')) := (Fr.refl _ _ _).setCell ⟨by simp, by simp⟩ _; have hO4 := hO3.apart hFg hd1 hdN hd3; have hY4 := hY3.set1 (.slice A' L'.length c'); have hR4 := hR3.off (p := ⟨v1.heap.size, 1, none⟩) (by simp; omega) (.slice A' L'.length c'); have hB4 := hB3.trans (hFg.below (B := w.heap.size) (by omega) (by have := hB3.size; omega)); clear hO hY hR hB hO3 hB3 hFg hM hOw hbw hbut hd g0 g1 g2 g3 g4 g5 f0 f1 f2 y0 y1 y2; obtain ⟨g0, g1, g2, g3, g4, g5⟩ := id hY3; obtain ⟨y0, y1, y2, _, _, _⟩ := id hY4; obtain ⟨q0, q1, q2, q3, q4, q5⟩ := id hR3; have hR := hR4; have hB := hB4; have hO := hO4; clear hY3 hY4 hR3 hR4 hB4 hO4; obtain ⟨k0, k1, k2, f0, f1, f2⟩ := id hR; have hR' := ((hR.set0 (.slice A1 s.length c1)).set1 (.slice A' L'.length c')).set2 (.slice A3 h.length c3); have hF : Fr (w.heap.size + 1) ((w.heap.size + 1) + 1) (w'.setCell ⟨v1.heap.size, 1, none⟩ (.slice A' L'.length c')) ((((w'.setCell ⟨v1.heap.size, 1, none⟩ (.slice A' L'.length c')).setCell ⟨(w.heap.size + 1), 0, none⟩ (.slice A1 s.length c1)).setCell ⟨(w.heap.size + 1), 1, none⟩ (.slice A' L'.length c')).setCell ⟨(w.heap.size + 1), 2, none⟩ (.slice A3 h.length c3)) := (((Fr.refl _ _ _).setCell ⟨by simp, by simp⟩ _).setCell ⟨by simp, by simp⟩ _).setCell ⟨by simp, by simp⟩ _; have hB' := hB.trans (hF.below (B := w.heap.size) (by omega) (by have := hB.size; omega)); have hO' := (hO.far hF (by omega)).lift (b0 := w.heap.size) (by omega); obtain ⟨x0, x1, x2, _, _, _⟩ := id hR')
    obtain rfl : L' = L := hL'.out.trans hA.out
    refine bodyPost_ret (by simp [results, Tryz.results70, go_sem, x0, x1, x2]; try rfl) rfl ?_
    exact ⟨A1, c1, A', c', A3, c3, rfl, hO', hB'⟩
  · rw [e1]
    have hA : Hid (r = L) := Lib.hid (by
      have := hL.out
      rw [addW, if_pos] at this
      · exact this
      · exact List.any_eq_true.2 ⟨y, List.mem_of_getElem? hj, hy⟩)
    clear hL e1 hf hj hy
    obtain rfl := hA.out
    obtain ⟨k0, k1, k2, f0, f1, f2⟩ := id hR
    have hR' := ((hR.set0 (.slice A1 s.length c1)).set1 (.slice A2 r.length c2)).set2 (.slice A3 h.length c3)
    have hF : Fr (w.heap.size + 1) ((w.heap.size + 1) + 1) v2 (((v2.setCell ⟨(w.heap.size + 1), 0, none⟩ (.slice A1 s.length c1)).setCell ⟨(w.heap.size + 1), 1, none⟩ (.slice A2 r.length c2)).setCell ⟨(w.heap.size + 1), 2, none⟩ (.slice A3 h.length c3)) := (((Fr.refl _ _ _).setCell ⟨by simp, by simp⟩ _).setCell ⟨by simp, by simp⟩ _).setCell ⟨by simp, by simp⟩ _
    have hB' := hB.trans (hF.below (B := w.heap.size) (by omega) (by have := hB.size; omega))
    have hO' := (hO.far hF (by omega)).lift (b0 := w.heap.size) (by omega)
    obtain ⟨x0, x1, x2, _, _, _⟩ := id hR'
    go_wp2
    refine bodyPost_ret (by simp [results, Tryz.results70, go_sem, x0, x1, x2]; try rfl) rfl ?_
    exact ⟨A1, c1, A2, c2, A3, c3, rfl, hO', hB'⟩
set_option maxRecDepth 100000 in
set_option maxHeartbeats 8000000 in
theorem raConfirm_any (As : Option Addr) (cs : Nat) (s : List Msg) (Ar : Option Addr) (cr : Nat) (r : List Msg) (Ah : Option Addr) (ch : Nat) (h : List Msg) (w : World) (hls : s.length ≤ 1048576) (hSs : Msgs w 0 w.heap.size As s) (hlr : r.length ≤ 1048576) (hSr : Msgs w 0 w.heap.size Ar r) (hlh : h.length ≤ 1048576) (hSh : Msgs w 0 w.heap.size Ah h) (i : Nat) (m : Msg) (hm : r[i]? = some m) :
    Calls Tryz.prog 74 #[.agg #[.slice As s.length cs, .slice Ar r.length cr, .slice Ah h.length ch], .int .i64 i] w (RC w s r (addW h m)) := by
  obtain ⟨i0, hi0, hz0, hz1, hz2⟩ := info_parts Msg.info
  generalize hL : addW h m = L
  replace hL := Lib.hid hL
  have e1 : (w.alloc (.cells #[.slice As s.length cs, .slice Ar r.length cr, .slice Ah h.length ch] 26)).heap.size = w.heap.size + 1 := by simp
  have hlo : ((w.alloc (.cells #[.slice As s.length cs, .slice Ar r.length cr, .slice Ah h.length ch] 26)).alloc (.cells #[.slice none 0 0, .slice none 0 0, .slice none 0 0] 26)).heap.size = w.heap.size + 2 := by simp
  have hX := (B3.new w (.slice As s.length cs) (.slice Ar r.length cr) (.slice Ah h.length ch) 26 _ rfl).alloc (.cells #[.slice none 0 0, .slice none 0 0, .slice none 0 0] 26)
  have hR := B3.new (w.alloc (.cells #[.slice As s.length cs, .slice Ar r.length cr, .slice Ah h.length ch] 26)) (.slice none 0 0) (.slice none 0 0) (.slice none 0 0) 26 (w.heap.size + 1) e1.symm
  have hil : i < r.length := (List.getElem?_eq_some_iff.1 hm).1
  obtain ⟨b0, b1, b2, _, _, _⟩ := id hX
  go_enter Tryz.func74, Tryz.ntmps74
  go_wp2_with fail
  refine (raOwn_any As cs s Ar cr r Ah ch h _ hls ((hSs.alloc _).alloc _).all hlr ((hSr.alloc _).alloc _).all hlh ((hSh.alloc _).alloc _).all).mono ?_
  rintro e v1 ⟨A1, c1, A2, c2, A3, c3, rfl, hO, hb⟩
  have hB1 : Below w.heap.size w v1 := Below.on' (by go_grown) hb
  replace hX := hX.below hb
  replace hR := hR.below hb
  rw [hlo] at hO
  have hz1' : w.heap.size + 2 ≤ v1.heap.size := by have := hb.size; omega
  clear b0 b1 b2 e1 hlo hb
  obtain ⟨b0, b1, b2, _, _, _⟩ := id hX
  have hSx := (hSr.below hB1)
  obtain ⟨b, off, rfl, _, kb, _, hf⟩ := hSx.at_ hm
  have k1 : w.heap.size < v1.heap.size := by omega
  have k2 : b < v1.heap.size := by omega
  have d0 : v1.cell? ⟨b, off + i * 3, none⟩ = some (.string m.f) := (hf 0 _ rfl).1
  have d1 : v1.cell? ⟨b, off + i * 3 + 1, none⟩ = some (.int .i64 m.n) := (hf 1 _ rfl).1
  have d2 : v1.cell? ⟨b, off + i * 3 + 2, none⟩ = some (.string m.b) := (hf 2 _ rfl).1
  clear hf hSx hm
  have hBV : Below v1.heap.size v1 ((v1.alloc (.cells #[.slice A1 s.length c1, .slice A2 r.length c2, .slice A3 h.length c3] 26)).alloc (.cells #[.string m.f, .int .i64 m.n, .string m.b] 33)) := by go_grown
  have e2 : (v1.alloc (.cells #[.slice A1 s.length c1, .slice A2 r.length c2, .slice A3 h.length c3] 26)).heap.size = v1.heap.size + 1 := by simp
  have hY := (B3.new v1 (.slice A1 s.length c1) (.slice A2 r.length c2) (.slice A3 h.length c3) 26 _ rfl).alloc (.cells #[.string m.f, .int .i64 m.n, .string m.b] 33)
  have hM := B3.new (v1.alloc (.cells #[.slice A1 s.length c1, .slice A2 r.length c2, .slice A3 h.length c3] 26)) (.string m.f) (.int .i64 m.n) (.string m.b) 33 (v1.heap.size + 1) e2.symm
  go_wp2_with fail
  refine (raFind_any _ _ h m.f m.n _ hlh ((hSh.below hB1).below hBV).all).mono ?_
  rintro e v2 ⟨rfl, hb⟩
  have hB := (Below.on' hB1 hBV).trans (hb.mono (by have := hB1.size; simp; omega))
  have hd1 := dis_lt hO.o1.blk
  have hd2 := dis_lt hO.o2.blk
  have hd3 := dis_lt hO.o3.blk
  replace hX := (hX.below hBV).below hb
  replace hR := (hR.below hBV).below hb
  replace hY := hY.below hb
  replace hM := hM.below hb
  replace hO := (hO.below hBV).below hb
  have hz2' := hM.lt
  have k3 := hY.lt
  clear b0 b1 b2 d0 d1 d2 hB1 hBV hb e2 hX
  obtain ⟨y0, y1, y2, _, _, _⟩ := id hY
  rcases find_idx (keyP m.f m.n) h 0 with ⟨e1, hf⟩ | ⟨j, y, hj, e1, hf, hy⟩
  · rw [e1]
    have hA : Hid (h ++ [m] = L) := Lib.hid (by
      have := hL.out
      rw [addW, if_neg] at this
      · exact this
      · rw [← idxG_any, e1]; decide)
    clear hL e1 hf
    obtain ⟨g0, g1, g2, g3, g4, g5⟩ := id hM
    obtain ⟨_, _, _, f0, f1, f2⟩ := id hY
    go_wp2_with (at_builtin; refine wpList_append_one2 _ rfl (.tmp 23) (.tmp 25) _ rfl i0 _ _ Tryz.underlying24 hi0 hz0 hz1 hz2 rfl (by omega) Msg.len Msg.one m _ (hO.o3.alloc _) rfl rfl (new_cells _ _ _ _ rfl) (by unfold maxLen; first | omega | (simp; omega)) (by first | omega | (simp; omega)) (by simp; omega) ?_; intro A' c' w' L' hL' hOw hbw hbut hd; have hO3 := (hO.below ((Below.refl _ _).alloc (Nat.le_refl _) _)).push3 hOw hbut hd; have hY3 := (hY.alloc _).same (hbut _ (hY.alloc _).lt (fun a ha => hd3 a _ ha rfl)); have hR3 := (hR.alloc _).upto (by omega) hbw; have hB3 := (hB.alloc hB.size _).trans (hbw.mono (by omega)); have hdN := hd (some ⟨v1.heap.size, 0, none⟩) hd3 (fun a ha => by injection ha with ha; subst ha; simp; omega); have hFg : Fr v1.heap.size (v1.heap.size + 1) w' (w'.setCell ⟨v1.heap.size, 2, none⟩ (.slice A' L'.length c')) := (Fr.refl _ _ _).setCell ⟨by simp, by simp⟩ _; have hO4 := hO3.apart hFg hd1 hd2 hdN; have hY4 := hY3.set2 (.slice A' L'.length c'); have hR4 := hR3.off (p := ⟨v1.heap.size, 2, none⟩) (by simp; omega) (.slice A' L'.length c'); have hB4 := hB3.trans (hFg.below (B := w.heap.size) (by omega) (by have := hB3.size; omega)); clear hO hY hR hB hO3 hB3 hFg hM hOw hbw hbut hd g0 g1 g2 g3 g4 g5 f0 f1 f2 y0 y1 y2; obtain ⟨g0, g1, g2, g3, g4, g5⟩ := id hY3; obtain ⟨y0, y1, y2, _, _, _⟩ := id hY4; obtain ⟨q0, q1, q2, q3, q4, q5⟩ := id hR3; have hR := hR4; have hB := hB4; have hO := hO4; clear hY3 hY4 hR3 hR4 hB4 hO4; obtain ⟨k0, k1, k2, f0, f1, f2⟩ := id hR; have hR' := ((hR.set0 (.slice A1 s.length c1)).set1 (.slice A2 r.length c2)).set2 (.slice A' L'.length c'); have hF : Fr (w.heap.size + 1) ((w.heap.size + 1) + 1) (w'.setCell ⟨v1.heap.size, 2, none⟩ (.slice A' L'.length c')) ((((w'.setCell ⟨v1.heap.size, 2, none⟩ (.slice A' L'.length c')).setCell ⟨(w.heap.size + 1), 0, none⟩ (.slice A1 s.length c1)).setCell ⟨(w.heap.size + 1), 1, none⟩ (.slice A2 r.length c2)).setCell ⟨(w.heap.size + 1), 2, none⟩ (.slice A' L'.length c')) := (((Fr.refl _ _ _).setCell ⟨by simp, by simp⟩ _).setCell ⟨by simp, by simp⟩ _).setCell ⟨by simp, by simp⟩ _; have hB' := hB.trans (hF.below (B := w.heap.size) (by omega) (by have := hB.size; omega)); have hO' := (hO.far hF (by omega)).lift (b0 := w.heap.size) (by omega); obtain ⟨x0, x1, x2, _, _, _⟩ := id hR')
    obtain rfl : L' = L := hL'.out.trans hA.out
    refine bodyPost_ret (by simp [results, Tryz.results74, go_sem, x0, x1, x2]; try rfl) rfl ?_
    exact ⟨A1, c1, A2, c2, A', c', rfl, hO', hB'⟩
  · rw [e1]
    have hA : Hid (h = L) := Lib.hid (by
      have := hL.out
      rw [addW, if_pos] at this
      · exact this
      · exact List.any_eq_true.2 ⟨y, List.mem_of_getElem? hj, hy⟩)
    clear hL e1 hf hj hy
    obtain rfl := hA.out
    obtain ⟨k0, k1, k2, f0, f1, f2⟩ := id hR
    have hR' := ((hR.set0 (.slice A1 s.length c1)).set1 (.slice A2 r.length c2)).set2 (.slice A3 h.length c3)
    have hF : Fr (w.heap.size + 1) ((w.heap.size + 1) + 1) v2 (((v2.setCell ⟨(w.heap.size + 1), 0, none⟩ (.slice A1 s.length c1)).setCell ⟨(w.heap.size + 1), 1, none⟩ (.slice A2 r.length c2)).setCell ⟨(w.heap.size + 1), 2, none⟩ (.slice A3 h.length c3)) := (((Fr.refl _ _ _).setCell ⟨by simp, by simp⟩ _).setCell ⟨by simp, by simp⟩ _).setCell ⟨by simp, by simp⟩ _
    have hB' := hB.trans (hF.below (B := w.heap.size) (by omega) (by have := hB.size; omega))
    have hO' := (hO.far hF (by omega)).lift (b0 := w.heap.size) (by omega)
    obtain ⟨x0, x1, x2, _, _, _⟩ := id hR'
    go_wp2
    refine bodyPost_ret (by simp [results, Tryz.results74, go_sem, x0, x1, x2]; try rfl) rfl ?_
    exact ⟨A1, c1, A2, c2, A3, c3, rfl, hO', hB'⟩
end Go.Proofs.YtjmjilkpckbpeaaGreatDoor
namespace Go.Proofs.YtjmjilkpckbpeaaGreatDoor
open Go.RowKit

theorem sl_one (w : World) (m : Msg) : Msgs (w.alloc (.cells #[.string m.f, .int .i64 m.n, .string m.b] 33)) 0 (w.alloc (.cells #[.string m.f, .int .i64 m.n, .string m.b] 33)).heap.size (some ⟨w.heap.size, 0, none⟩) [m] := fun _ => by
  refine ⟨w.heap.size, 0, rfl, Nat.zero_le _, by simp, Nat.le_refl _, fun i x hx j v hv => ?_⟩
  cases i with
  | zero =>
    obtain rfl : m = x := by simpa using hx
    have := new_cells (E := Msg.cells) w 33 m _ rfl j v hv
    rw [show 0 + 0 * 3 + j = j by omega]
    exact ⟨this, World.frozen?_alloc_at _ _ _ _ rfl⟩
  | succ i => simp at hx
/-- In the block pb, only the cell at q changed. -/
def BoxB (pb q : Nat) (w w' : World) : Prop := ∀ j, j ≠ q → w'.cell? ⟨pb, j, none⟩ = w.cell? ⟨pb, j, none⟩ ∧ w'.frozen? ⟨pb, j, none⟩ = w.frozen? ⟨pb, j, none⟩
theorem BoxB.of {pb q : Nat} {w V : World} {v : Value} (e : V.heap[pb]? = w.heap[pb]?) : BoxB pb q w (V.setCell ⟨pb, q, none⟩ v) := fun j hj =>
  ⟨(World.cell?_setCell_other _ _ _ _ (by intro h; injection h with _ h _; omega)).trans (World.cell?_of_block (a := ⟨pb, j, none⟩) e), (World.frozen?_setCell ..).trans (World.frozen?_of_block (a := ⟨pb, j, none⟩) e)⟩
theorem BoxB.same {pb q : Nat} {w V : World} (e : V.heap[pb]? = w.heap[pb]?) : BoxB pb q w V := fun j _ =>
  ⟨World.cell?_of_block (a := ⟨pb, j, none⟩) e, World.frozen?_of_block (a := ⟨pb, j, none⟩) e⟩
/-- Behind an append to the list with address A inside the box pb. -/
def ButP (A : Option Addr) (pb : Nat) (w w' : World) : Prop := ∀ b, b < w.heap.size → b ≠ pb → (∀ a, A = some a → a.block ≠ b) → w'.heap[b]? = w.heap[b]?
set_option maxRecDepth 100000 in
set_option maxHeartbeats 8000000 in
theorem deliver_any (pb po base : Nat) (A1 : Option Addr) (c1 : Nat) (s : List Msg) (A2 : Option Addr) (c2 : Nat) (r : List Msg) (A3 : Option Addr) (c3 : Nat) (h : List Msg) (w : World) (hX : C3 pb po (.slice A1 s.length c1) (.slice A2 r.length c2) (.slice A3 h.length c3) w) (hO : OwnC w base A1 c1 s A2 c2 r A3 c3 h) (hbs : base ≤ w.heap.size) (hbp : base ≤ pb)
    (hd1 : Dis A1 (some ⟨pb, 0, none⟩)) (hd2 : Dis A2 (some ⟨pb, 0, none⟩)) (hd3 : Dis A3 (some ⟨pb, 0, none⟩)) (_hls : s.length ≤ 1048576) (hlr : r.length ≤ 1048576) (i : Nat) (m : Msg) (hm : s[i]? = some m) :
    Calls Tryz.prog 67 #[.pointer (some ⟨pb, po, none⟩), .int .i64 i] w fun e w' => ∃ A' c', e = .returned (.tuple #[]) ∧ C3 pb po (.slice A1 s.length c1) (.slice A' (addM r m).length c') (.slice A3 h.length c3) w' ∧ OwnC w' base A1 c1 s A' c' (addM r m) A3 c3 h ∧ Dis A' (some ⟨pb, 0, none⟩) ∧ Below base w w' ∧ ButP A2 pb w w' ∧ (∀ A, Dis A2 A → (∀ a, A = some a → a.block < w.heap.size) → Dis A' A) ∧ BoxB pb (po + 1) w w' := by
  have hpw := hX.lt
  obtain ⟨i0, hi0, hz0, hz1, hz2⟩ := info_parts Msg.info
  have hlen : (addM r m).length ≤ r.length + 1 := addM_len r m
  generalize hL : addM r m = L at hlen ⊢
  replace hL := Lib.hid hL
  have hil : i < s.length := (List.getElem?_eq_some_iff.1 hm).1
  obtain ⟨b, off, rfl, _, kb, _, hf⟩ := (hO.o1.sl Msg.len).at_ hm
  have d0 : w.cell? ⟨b, off + i * 3, none⟩ = some (.string m.f) := (hf 0 _ rfl).1
  have d1 : w.cell? ⟨b, off + i * 3 + 1, none⟩ = some (.int .i64 m.n) := (hf 1 _ rfl).1
  have d2 : w.cell? ⟨b, off + i * 3 + 2, none⟩ = some (.string m.b) := (hf 2 _ rfl).1
  have hcls : ∀ W, Below w.heap.size w W → W.cell? ⟨pb, po, none⟩ = some (.slice (some ⟨b, off, none⟩) s.length c1) ∧ W.cell? ⟨pb, po + 1, none⟩ = some (.slice A2 r.length c2) ∧ W.cell? ⟨pb, po + 2, none⟩ = some (.slice A3 h.length c3) ∧ W.cell? ⟨b, off + i * 3, none⟩ = some (.string m.f) ∧ W.cell? ⟨b, off + i * 3 + 1, none⟩ = some (.int .i64 m.n) ∧ W.cell? ⟨b, off + i * 3 + 2, none⟩ = some (.string m.b) := fun W hb => ⟨keep hb hX.c0, keep hb hX.c1, keep hb hX.c2, keep hb d0, keep hb d1, keep hb d2⟩
  have HM : ∀ W, Below w.heap.size w W → Calls Tryz.prog 78 #[.slice A2 r.length c2, .agg #[.string m.f, .int .i64 m.n, .string m.b]] W (RV W (.bool (memM r m))) := fun W hb => Msg.Contains_any A2 c2 r m W hlr ((hO.o2.sl Msg.len).below hb).all
  clear hf d0 d1 d2
  go_enter Tryz.func67, Tryz.ntmps67
  go_wp2_with fail
  refine wp_region_quiet (C := fun w' => Below w.heap.size w w') (by kernel_rfl) (by kernel_rfl) ((Below.refl _ _).drew) ?_
  dsimp only [Array.toList]
  iterate 13
    with_reducible refine wpQuiet_step (fun K hK => ?_)
    go_simp
    first
      | (refine hK _ ?_; clear hK K)
      | (apply Exists.intro
         refine ⟨fun w' hw' => ?_, hK _ ?_⟩
         · obtain ⟨z0, z1, z2, z3, z4, z5⟩ := hcls w' hw'
           have M1 := HM w' hw'
           go_simp
           first
             | rfl
             | (refine M1.mono ?_; rintro e w1 ⟨rfl, hb⟩; exact ⟨rfl, hw'.trans (hb.mono hw'.size)⟩)
         clear hK K)
  refine wpQuiet_nil ?_
  intro W0 hW0
  replace hcls := hcls W0 hW0
  replace hX := hX.below hW0
  replace hO := hO.below hW0
  clear HM
  have hz := hW0.size
  by_cases g : memM r m = true
  · obtain rfl : r = L := by rw [← hL.out, addM, if_pos g]
    rw [g]
    go_wp2
    refine bodyPost_end (results_none Tryz.results67 _ _ _) rfl ?_
    exact ⟨A2, c2, rfl, hX, hO, hd2, hW0.mono hbs, fun b h _ _ => hW0.block b h, fun _ h _ => h, BoxB.same (hW0.block pb hpw)⟩
  · have hA : Hid (r ++ [m] = L) := Lib.hid (by rw [← hL.out, addM, if_neg g])
    have g : memM r m = false := by simpa using g
    rw [g]
    clear hL g
    go_upto_region 1 with fail
    refine wp_region_held_drew (S := fun _ => True) (by kernel_rfl) trivial (fun _ => ?_)
    replace hX := hX.drew
    replace hO := hO.drew
    change _ ∧ _ ∧ _ ∧ _ ∧ _ ∧ _ at hcls
    have hW0' := hW0.drew
    have hz' : w.heap.size ≤ W0.drew.heap.size := hz
    have hcls' : W0.drew.cell? ⟨pb, po, none⟩ = some (.slice (some ⟨b, off, none⟩) s.length c1) ∧ W0.drew.cell? ⟨pb, po + 1, none⟩ = some (.slice A2 r.length c2) ∧ W0.drew.cell? ⟨pb, po + 2, none⟩ = some (.slice A3 h.length c3) ∧ W0.drew.cell? ⟨b, off + i * 3, none⟩ = some (.string m.f) ∧ W0.drew.cell? ⟨b, off + i * 3 + 1, none⟩ = some (.int .i64 m.n) ∧ W0.drew.cell? ⟨b, off + i * 3 + 2, none⟩ = some (.string m.b) := hcls
    clear hcls
    generalize W0.drew = W1 at hX hO hcls' hW0' hz' ⊢
    change wpAnyH _ _ _ _ _ 17 #[false, false, false, false, false, false, false, false, false, false, false, false, false, false, false, false, false] _ _
    refine wpAnyH_takeL (i := 0) (v := .pointer (some ⟨pb, po, none⟩)) rfl (by kernel_rfl) (by kernel_rfl) (by kernel_rfl) (fun _ _ _ h => h) (Or.inl ⟨by rfl, fun w' _ => by go_simp⟩) trivial ?_
    simp only [Act.put, List.setIfInBounds_toArray, List.set_cons_zero, List.set_cons_succ]
    refine wpAnyH_takeL (i := 1) (v := .pointer (some ⟨pb, po, none⟩)) rfl (by kernel_rfl) (by kernel_rfl) (by kernel_rfl) (fun _ _ _ h => h) (Or.inl ⟨by rfl, fun w' _ => by go_simp⟩) trivial ?_
    simp only [Act.put, List.setIfInBounds_toArray, List.set_cons_zero, List.set_cons_succ]
    refine wpAnyH_takeL (i := 2) (v := .pointer (some ⟨pb, po, none⟩)) rfl (by kernel_rfl) (by kernel_rfl) (by kernel_rfl) (fun _ _ _ h => h) (Or.inl ⟨by rfl, fun w' _ => by go_simp⟩) trivial ?_
    simp only [Act.put, List.setIfInBounds_toArray, List.set_cons_zero, List.set_cons_succ]
    refine wpAnyH_takeL (i := 3) (v := .pointer (some ⟨pb, po + 1, none⟩)) rfl (by kernel_rfl) (by kernel_rfl) (by kernel_rfl) (fun _ _ _ h => h) (Or.inl ⟨by rfl, fun w' _ => by go_simp⟩) trivial ?_
    simp only [Act.put, List.setIfInBounds_toArray, List.set_cons_zero, List.set_cons_succ]
    refine wpAnyH_takeL (i := 5) (v := .pointer (some ⟨pb, po, none⟩)) rfl (by kernel_rfl) (by kernel_rfl) (by kernel_rfl) (fun _ _ _ h => h) (Or.inl ⟨by rfl, fun w' _ => by go_simp⟩) trivial ?_
    simp only [Act.put, List.setIfInBounds_toArray, List.set_cons_zero, List.set_cons_succ]
    refine wpAnyH_takeL (i := 6) (v := .pointer (some ⟨pb, po, none⟩)) rfl (by kernel_rfl) (by kernel_rfl) (by kernel_rfl) (fun _ _ _ h => h) (Or.inl ⟨by rfl, fun w' _ => by go_simp⟩) trivial ?_
    simp only [Act.put, List.setIfInBounds_toArray, List.set_cons_zero, List.set_cons_succ]
    refine wpAnyH_takeL (i := 7) (v := .pointer (some ⟨pb, po, none⟩)) rfl (by kernel_rfl) (by kernel_rfl) (by kernel_rfl) (fun _ _ _ h => h) (Or.inl ⟨by rfl, fun w' _ => by go_simp⟩) trivial ?_
    simp only [Act.put, List.setIfInBounds_toArray, List.set_cons_zero, List.set_cons_succ]
    refine wpAnyH_takeL (i := 9) (v := .int .i64 i) rfl (by kernel_rfl) (by kernel_rfl) (by kernel_rfl) (fun _ _ _ h => h) (Or.inl ⟨by rfl, fun w' _ => by go_simp⟩) trivial ?_
    simp only [Act.put, List.setIfInBounds_toArray, List.set_cons_zero, List.set_cons_succ]
    refine wpAnyH_inv (m := 4) (I := fun n l a W => ∃ x y v21 v25 v27 v28 v29, n + x + y = 5 ∧ x ≤ 1 ∧ y ≤ 4 ∧ l = #[true, true, true, true, decide (1 ≤ x), true, true, true, decide (1 ≤ y), true, decide (2 ≤ y), decide (3 ≤ y), decide (4 ≤ y), false, false, false, false] ∧ a = ⟨#[.pointer (some ⟨pb, po, none⟩), .int .i64 i, undef, undef, .pointer (some ⟨pb, po, none⟩), .pointer (some ⟨pb, po, none⟩), .pointer (some ⟨pb, po + 1, none⟩), .slice A2 r.length c2, .pointer (some ⟨pb, po, none⟩), .pointer (some ⟨pb, po, none⟩), .pointer (some ⟨pb, po, none⟩), .slice (some ⟨b, off, none⟩) s.length c1, .int .i64 i, .pointer (some ⟨b, off + i * 3, none⟩), .agg #[.string m.f, .int .i64 m.n, .string m.b], .bool false, .bool true, .pointer (some ⟨pb, po, none⟩), .pointer (some ⟨pb, po, none⟩), .pointer (some ⟨pb, po, none⟩), .pointer (some ⟨pb, po + 1, none⟩), v21, .pointer (some ⟨pb, po, none⟩), .pointer (some ⟨pb, po, none⟩), .pointer (some ⟨pb, po, none⟩), v25, .int .i64 i, v27, v28, v29, undef, undef, undef], []⟩ ∧ (1 ≤ x → v21 = .slice A2 r.length c2) ∧ (1 ≤ y → v25 = .slice (some ⟨b, off, none⟩) s.length c1) ∧ (2 ≤ y → v27 = .pointer (some ⟨b, off + i * 3, none⟩)) ∧ (3 ≤ y → v28 = .agg #[.string m.f, .int .i64 m.n, .string m.b]) ∧ ((y ≤ 3 ∧ W = W1) ∨ (y = 4 ∧ v29 = .slice (some ⟨W1.heap.size, 0, none⟩) 1 1 ∧ W = W1.alloc (.cells #[.string m.f, .int .i64 m.n, .string m.b] 33))) ∧ W.cell? ⟨pb, po, none⟩ = some (.slice (some ⟨b, off, none⟩) s.length c1) ∧ W.cell? ⟨pb, po + 1, none⟩ = some (.slice A2 r.length c2) ∧ W.cell? ⟨pb, po + 2, none⟩ = some (.slice A3 h.length c3) ∧ W.cell? ⟨b, off + i * 3, none⟩ = some (.string m.f) ∧ W.cell? ⟨b, off + i * 3 + 1, none⟩ = some (.int .i64 m.n) ∧ W.cell? ⟨b, off + i * 3 + 2, none⟩ = some (.string m.b)) ?_ ?_ 5 _ _ _ ⟨0, 0, undef, undef, undef, undef, undef, rfl, by omega, by omega, rfl, rfl, by omega, by omega, by omega, by omega, .inl ⟨by omega, rfl⟩, hcls'⟩
    · rintro n l a W ⟨x, y, v21, v25, v27, v28, v29, hn, hx, hy, rfl, rfl, e21, e25, e27, e28, hW, hc⟩
      refine ⟨?_, fun i' o ho hi K hK => ?_⟩
      · rcases (by omega : x = 0 ∨ x = 1) with rfl | rfl <;> rcases (by omega : y = 0 ∨ y = 1 ∨ y = 2 ∨ y = 3 ∨ y = 4) with rfl | rfl | rfl | rfl | rfl <;> first | kernel_rfl | (exfalso; omega)
      · obtain ⟨hun, _⟩ := mem_ready.1 hi
        have hcont := List.contains_iff_mem.2 hi
        obtain ⟨z0, z1, z2, z3, z4, z5⟩ := id hc
        have hi17 : i' = 0 ∨ i' = 1 ∨ i' = 2 ∨ i' = 3 ∨ i' = 4 ∨ i' = 5 ∨ i' = 6 ∨ i' = 7 ∨ i' = 8 ∨ i' = 9 ∨ i' = 10 ∨ i' = 11 ∨ i' = 12 ∨ i' = 13 ∨ i' = 14 ∨ i' = 15 ∨ i' = 16 := by
          have := (List.getElem?_eq_some_iff.1 ho).1
          simp only [List.length_cons, List.length_nil] at this
          omega
        rcases hi17 with rfl | rfl | rfl | rfl | rfl | rfl | rfl | rfl | rfl | rfl | rfl | rfl | rfl | rfl | rfl | rfl | rfl
        · cases hun
        · cases hun
        · cases hun
        · cases hun
        · have hx0 : x = 0 := by have := of_decide_eq_false hun; omega
          subst hx0
          obtain rfl := Option.some.inj ho
          clear ho hi hcont hun
          go_simp
          exact hK.out _ _ trivial ⟨1, y, _, v25, v27, v28, v29, by omega, by omega, by omega, rfl, rfl, fun _ => rfl, e25, e27, e28, hW, hc⟩
        · cases hun
        · cases hun
        · cases hun
        · have hy1 : y ≤ 0 := by have := of_decide_eq_false hun; omega
          have hy0 : y = 0 := by
            omega
          subst hy0
          obtain rfl := Option.some.inj ho
          clear ho hi hcont hun
          replace hW : W = W1 := hW.elim And.right (fun h => absurd h.1 (by omega))
          subst hW
          go_simp
          exact hK.out _ _ trivial ⟨x, 1, v21, _, v27, v28, v29, by omega, by omega, by omega, rfl, rfl, e21, fun _ => rfl, by omega, by omega, .inl ⟨by omega, rfl⟩, hc⟩
        · cases hun
        · have hy1 : y ≤ 1 := by have := of_decide_eq_false hun; omega
          have hy0 : y = 1 := by
            rcases (by omega : x = 0 ∨ x = 1) with rfl | rfl <;> rcases (by omega : y = 0 ∨ y = 1) with rfl | rfl <;> first | rfl | exact absurd (hcont.symm.trans (by kernel_rfl : _ = false)) (by decide)
          subst hy0
          obtain rfl := Option.some.inj ho
          clear ho hi hcont hun
          replace hW : W = W1 := hW.elim And.right (fun h => absurd h.1 (by omega))
          obtain rfl := e25 (by omega)
          subst hW
          go_simp
          exact hK.out _ _ trivial ⟨x, 2, v21, _, _, v28, v29, by omega, by omega, by omega, rfl, rfl, e21, fun _ => rfl, fun _ => rfl, by omega, .inl ⟨by omega, rfl⟩, hc⟩
        · have hy1 : y ≤ 2 := by have := of_decide_eq_false hun; omega
          have hy0 : y = 2 := by
            rcases (by omega : x = 0 ∨ x = 1) with rfl | rfl <;> rcases (by omega : y = 0 ∨ y = 1 ∨ y = 2) with rfl | rfl | rfl <;> first | rfl | exact absurd (hcont.symm.trans (by kernel_rfl : _ = false)) (by decide)
          subst hy0
          obtain rfl := Option.some.inj ho
          clear ho hi hcont hun
          replace hW : W = W1 := hW.elim And.right (fun h => absurd h.1 (by omega))
          obtain rfl := e25 (by omega)
          obtain rfl := e27 (by omega)
          subst hW
          go_simp
          exact hK.out _ _ trivial ⟨x, 3, v21, _, _, _, v29, by omega, by omega, by omega, rfl, rfl, e21, fun _ => rfl, fun _ => rfl, fun _ => rfl, .inl ⟨by omega, rfl⟩, hc⟩
        · have hy1 : y ≤ 3 := by have := of_decide_eq_false hun; omega
          have hy0 : y = 3 := by
            rcases (by omega : x = 0 ∨ x = 1) with rfl | rfl <;> rcases (by omega : y = 0 ∨ y = 1 ∨ y = 2 ∨ y = 3) with rfl | rfl | rfl | rfl <;> first | rfl | exact absurd (hcont.symm.trans (by kernel_rfl : _ = false)) (by decide)
          subst hy0
          obtain rfl := Option.some.inj ho
          clear ho hi hcont hun
          replace hW : W = W1 := hW.elim And.right (fun h => absurd h.1 (by omega))
          obtain rfl := e25 (by omega)
          obtain rfl := e27 (by omega)
          obtain rfl := e28 (by omega)
          subst hW
          go_simp
          exact hK.out _ _ trivial ⟨x, 4, v21, _, _, _, _, by omega, by omega, by omega, rfl, rfl, e21, fun _ => rfl, fun _ => rfl, fun _ => rfl, .inr ⟨rfl, rfl, rfl⟩, lay _ z0, lay _ z1, lay _ z2, lay _ z3, lay _ z4, lay _ z5⟩
        · exfalso
          rcases (by omega : x = 0 ∨ x = 1) with rfl | rfl <;> rcases (by omega : y = 0 ∨ y = 1 ∨ y = 2 ∨ y = 3 ∨ y = 4) with rfl | rfl | rfl | rfl | rfl <;> first | omega | exact absurd (hcont.symm.trans (by kernel_rfl : _ = false)) (by decide)
        · exfalso
          rcases (by omega : x = 0 ∨ x = 1) with rfl | rfl <;> rcases (by omega : y = 0 ∨ y = 1 ∨ y = 2 ∨ y = 3 ∨ y = 4) with rfl | rfl | rfl | rfl | rfl <;> first | omega | exact absurd (hcont.symm.trans (by kernel_rfl : _ = false)) (by decide)
        · exfalso
          rcases (by omega : x = 0 ∨ x = 1) with rfl | rfl <;> rcases (by omega : y = 0 ∨ y = 1 ∨ y = 2 ∨ y = 3 ∨ y = 4) with rfl | rfl | rfl | rfl | rfl <;> first | omega | exact absurd (hcont.symm.trans (by kernel_rfl : _ = false)) (by decide)
        · exfalso
          rcases (by omega : x = 0 ∨ x = 1) with rfl | rfl <;> rcases (by omega : y = 0 ∨ y = 1 ∨ y = 2 ∨ y = 3 ∨ y = 4) with rfl | rfl | rfl | rfl | rfl <;> first | omega | exact absurd (hcont.symm.trans (by kernel_rfl : _ = false)) (by decide)
    · rintro l a W ⟨x, y, v21, v25, v27, v28, v29, hn, hx, hy, rfl, rfl, e21, e25, e27, e28, hW, hc⟩
      obtain ⟨rfl, rfl⟩ : x = 1 ∧ y = 4 := by omega
      obtain rfl := e21 (by omega)
      rcases hW with ⟨h, _⟩ | ⟨_, rfl, rfl⟩
      · omega
      change wpAnyH _ _ _ _ _ _ #[true, true, true, true, true, true, true, true, true, true, true, true, true, false, false, false, false] _ _
      refine wpAnyH_ready (rs := [13]) (by kernel_rfl) (by simp) ?_
      refine AllReadyH.consL rfl (fun K hK => ?_) AllReadyH.nil
      rw [if_pos (by rfl)]
      have hbs' : base ≤ (W1.alloc (.cells #[.string m.f, .int .i64 m.n, .string m.b] 33)).heap.size := by simp; omega
      refine wp_append_all (W1.alloc (.cells #[.string m.f, .int .i64 m.n, .string m.b] 33)) (.tmp 21) (.tmp 29) _ rfl i0 _ _ Tryz.underlying24 hi0 hz0 hz1 hz2 rfl (by omega) Msg.len Msg.one (hO.o2.alloc _) (sl_one W1 m) rfl rfl (by simp only [List.length_cons, List.length_nil]; unfold maxLen; omega) (by simp only [List.length_cons, List.length_nil]; omega) hbs' ?_
      intro A' c' V hOw hbw hbut hd
      refine hK.out _ _ trivial (fun _ => ?_)
      clear hK K
      have hO3 := (hO.below ((Below.refl _ _).alloc (Nat.le_refl _) _)).push2 hOw hbut hd
      have hlt : pb < W1.heap.size := hX.lt
      have hX3 := (hX.alloc (.cells #[.string m.f, .int .i64 m.n, .string m.b] 33)).same (hbut pb (hX.alloc _).lt (fun a ha => hd2 a _ ha rfl))
      have hdN := hd (some ⟨pb, 0, none⟩) hd2 (fun a ha => by injection ha with ha; subst ha; simp; omega)
      obtain ⟨g0, g1, g2, g3, g4, g5⟩ := id hX3
      refine wpAnyH_takeL (i := 14) (v := .pointer (some ⟨pb, po, none⟩)) rfl (by kernel_rfl) (by kernel_rfl) (by kernel_rfl) (fun _ _ _ h => h) (Or.inl ⟨by rfl, fun w' _ => by go_simp⟩) trivial ?_
      simp only [Act.put, List.setIfInBounds_toArray, List.set_cons_zero, List.set_cons_succ]
      refine wpAnyH_takeL (i := 15) (v := .pointer (some ⟨pb, po + 1, none⟩)) rfl (by kernel_rfl) (by kernel_rfl) (by kernel_rfl) (fun _ _ _ h => h) (Or.inl ⟨by rfl, fun w' _ => by go_simp⟩) trivial ?_
      simp only [Act.put, List.setIfInBounds_toArray, List.set_cons_zero, List.set_cons_succ]
      refine wpAnyH_ready (rs := [16]) (by kernel_rfl) (by simp) ?_
      refine AllReadyH.consL rfl (fun K hK => ?_) AllReadyH.nil
      go_simp
      refine hK.out _ _ trivial (fun _ => ?_)
      refine wpAnyH_done (by kernel_rfl) ?_ _
      have hFg : Fr pb (pb + 1) V (V.setCell ⟨pb, po + 1, none⟩ (.slice A' (r ++ [m]).length c')) := (Fr.refl _ _ _).setCell ⟨by simp, by simp⟩ _
      have hO4 := hO3.apart hFg hd1 hdN hd3
      have hX4 := hX3.set1 (.slice A' (r ++ [m]).length c')
      have hB4 : Below base w (V.setCell ⟨pb, po + 1, none⟩ (.slice A' (r ++ [m]).length c')) := (((hW0'.mono hbs).alloc (by omega) _).trans hbw).trans (hFg.below (by omega) (by have := hbw.size; omega))
      have hBP : ButP A2 pb w (V.setCell ⟨pb, po + 1, none⟩ (.slice A' (r ++ [m]).length c')) := fun q hq hne hA2 => by
        have hq1 : q < (W1.alloc (.cells #[.string m.f, .int .i64 m.n, .string m.b] 33)).heap.size := by simp; omega
        rw [hFg.block q (by have := hbw.size; omega) (by omega), hbut q hq1 hA2, ((Below.refl _ W1).alloc (Nat.le_refl _) _).block q (by omega), hW0'.block q hq]
      go_wp2
      refine bodyPost_end (results_none Tryz.results67 _ _ _) rfl ?_
      obtain rfl := hA.out
      rw [show r.length + 1 = (r ++ [m]).length by simp]
      exact ⟨rfl, A', c', hX4, hO4, hdN, hB4, hBP, fun A h1 h2 => hd A h1 (fun a ha => by have := h2 a ha; simp; omega), BoxB.of ((hbut pb (hX.alloc _).lt (fun a ha => hd2 a _ ha rfl)).trans ((((Below.refl _ W1).alloc (Nat.le_refl _) _).block pb hlt).trans (hW0'.block pb hpw)))⟩
set_option maxRecDepth 100000 in
set_option maxHeartbeats 8000000 in
theorem confirm_any (pb po base : Nat) (A1 : Option Addr) (c1 : Nat) (s : List Msg) (A2 : Option Addr) (c2 : Nat) (r : List Msg) (A3 : Option Addr) (c3 : Nat) (h : List Msg) (w : World) (hX : C3 pb po (.slice A1 s.length c1) (.slice A2 r.length c2) (.slice A3 h.length c3) w) (hO : OwnC w base A1 c1 s A2 c2 r A3 c3 h) (hbs : base ≤ w.heap.size) (hbp : base ≤ pb)
    (hd1 : Dis A1 (some ⟨pb, 0, none⟩)) (hd2 : Dis A2 (some ⟨pb, 0, none⟩)) (hd3 : Dis A3 (some ⟨pb, 0, none⟩)) (_hlr : r.length ≤ 1048576) (hlh : h.length ≤ 1048576) (i : Nat) (m : Msg) (hm : r[i]? = some m) :
    Calls Tryz.prog 73 #[.pointer (some ⟨pb, po, none⟩), .int .i64 i] w fun e w' => ∃ A' c', e = .returned (.tuple #[]) ∧ C3 pb po (.slice A1 s.length c1) (.slice A2 r.length c2) (.slice A' (addM h m).length c') w' ∧ OwnC w' base A1 c1 s A2 c2 r A' c' (addM h m) ∧ Dis A' (some ⟨pb, 0, none⟩) ∧ Below base w w' ∧ ButP A3 pb w w' ∧ (∀ A, Dis A3 A → (∀ a, A = some a → a.block < w.heap.size) → Dis A' A) ∧ BoxB pb (po + 2) w w' := by
  have hpw := hX.lt
  obtain ⟨i0, hi0, hz0, hz1, hz2⟩ := info_parts Msg.info
  have hlen : (addM h m).length ≤ h.length + 1 := addM_len h m
  generalize hL : addM h m = L at hlen ⊢
  replace hL := Lib.hid hL
  have hil : i < r.length := (List.getElem?_eq_some_iff.1 hm).1
  obtain ⟨b, off, rfl, _, kb, _, hf⟩ := (hO.o2.sl Msg.len).at_ hm
  have d0 : w.cell? ⟨b, off + i * 3, none⟩ = some (.string m.f) := (hf 0 _ rfl).1
  have d1 : w.cell? ⟨b, off + i * 3 + 1, none⟩ = some (.int .i64 m.n) := (hf 1 _ rfl).1
  have d2 : w.cell? ⟨b, off + i * 3 + 2, none⟩ = some (.string m.b) := (hf 2 _ rfl).1
  have hcls : ∀ W, Below w.heap.size w W → W.cell? ⟨pb, po, none⟩ = some (.slice A1 s.length c1) ∧ W.cell? ⟨pb, po + 1, none⟩ = some (.slice (some ⟨b, off, none⟩) r.length c2) ∧ W.cell? ⟨pb, po + 2, none⟩ = some (.slice A3 h.length c3) ∧ W.cell? ⟨b, off + i * 3, none⟩ = some (.string m.f) ∧ W.cell? ⟨b, off + i * 3 + 1, none⟩ = some (.int .i64 m.n) ∧ W.cell? ⟨b, off + i * 3 + 2, none⟩ = some (.string m.b) := fun W hb => ⟨keep hb hX.c0, keep hb hX.c1, keep hb hX.c2, keep hb d0, keep hb d1, keep hb d2⟩
  have HM : ∀ W, Below w.heap.size w W → Calls Tryz.prog 78 #[.slice A3 h.length c3, .agg #[.string m.f, .int .i64 m.n, .string m.b]] W (RV W (.bool (memM h m))) := fun W hb => Msg.Contains_any A3 c3 h m W hlh ((hO.o3.sl Msg.len).below hb).all
  clear hf d0 d1 d2
  go_enter Tryz.func73, Tryz.ntmps73
  go_wp2_with fail
  refine wp_region_quiet (C := fun w' => Below w.heap.size w w') (by kernel_rfl) (by kernel_rfl) ((Below.refl _ _).drew) ?_
  dsimp only [Array.toList]
  iterate 13
    with_reducible refine wpQuiet_step (fun K hK => ?_)
    go_simp
    first
      | (refine hK _ ?_; clear hK K)
      | (apply Exists.intro
         refine ⟨fun w' hw' => ?_, hK _ ?_⟩
         · obtain ⟨z0, z1, z2, z3, z4, z5⟩ := hcls w' hw'
           have M1 := HM w' hw'
           go_simp
           first
             | rfl
             | (refine M1.mono ?_; rintro e w1 ⟨rfl, hb⟩; exact ⟨rfl, hw'.trans (hb.mono hw'.size)⟩)
         clear hK K)
  refine wpQuiet_nil ?_
  intro W0 hW0
  replace hcls := hcls W0 hW0
  replace hX := hX.below hW0
  replace hO := hO.below hW0
  clear HM
  have hz := hW0.size
  by_cases g : memM h m = true
  · obtain rfl : h = L := by rw [← hL.out, addM, if_pos g]
    rw [g]
    go_wp2
    refine bodyPost_end (results_none Tryz.results73 _ _ _) rfl ?_
    exact ⟨A3, c3, rfl, hX, hO, hd3, hW0.mono hbs, fun b h _ _ => hW0.block b h, fun _ h _ => h, BoxB.same (hW0.block pb hpw)⟩
  · have hA : Hid (h ++ [m] = L) := Lib.hid (by rw [← hL.out, addM, if_neg g])
    have g : memM h m = false := by simpa using g
    rw [g]
    clear hL g
    go_upto_region 1 with fail
    refine wp_region_held_drew (S := fun _ => True) (by kernel_rfl) trivial (fun _ => ?_)
    replace hX := hX.drew
    replace hO := hO.drew
    change _ ∧ _ ∧ _ ∧ _ ∧ _ ∧ _ at hcls
    have hW0' := hW0.drew
    have hz' : w.heap.size ≤ W0.drew.heap.size := hz
    have hcls' : W0.drew.cell? ⟨pb, po, none⟩ = some (.slice A1 s.length c1) ∧ W0.drew.cell? ⟨pb, po + 1, none⟩ = some (.slice (some ⟨b, off, none⟩) r.length c2) ∧ W0.drew.cell? ⟨pb, po + 2, none⟩ = some (.slice A3 h.length c3) ∧ W0.drew.cell? ⟨b, off + i * 3, none⟩ = some (.string m.f) ∧ W0.drew.cell? ⟨b, off + i * 3 + 1, none⟩ = some (.int .i64 m.n) ∧ W0.drew.cell? ⟨b, off + i * 3 + 2, none⟩ = some (.string m.b) := hcls
    clear hcls
    generalize W0.drew = W1 at hX hO hcls' hW0' hz' ⊢
    change wpAnyH _ _ _ _ _ 17 #[false, false, false, false, false, false, false, false, false, false, false, false, false, false, false, false, false] _ _
    refine wpAnyH_takeL (i := 0) (v := .pointer (some ⟨pb, po, none⟩)) rfl (by kernel_rfl) (by kernel_rfl) (by kernel_rfl) (fun _ _ _ h => h) (Or.inl ⟨by rfl, fun w' _ => by go_simp⟩) trivial ?_
    simp only [Act.put, List.setIfInBounds_toArray, List.set_cons_zero, List.set_cons_succ]
    refine wpAnyH_takeL (i := 1) (v := .pointer (some ⟨pb, po, none⟩)) rfl (by kernel_rfl) (by kernel_rfl) (by kernel_rfl) (fun _ _ _ h => h) (Or.inl ⟨by rfl, fun w' _ => by go_simp⟩) trivial ?_
    simp only [Act.put, List.setIfInBounds_toArray, List.set_cons_zero, List.set_cons_succ]
    refine wpAnyH_takeL (i := 2) (v := .pointer (some ⟨pb, po, none⟩)) rfl (by kernel_rfl) (by kernel_rfl) (by kernel_rfl) (fun _ _ _ h => h) (Or.inl ⟨by rfl, fun w' _ => by go_simp⟩) trivial ?_
    simp only [Act.put, List.setIfInBounds_toArray, List.set_cons_zero, List.set_cons_succ]
    refine wpAnyH_takeL (i := 3) (v := .pointer (some ⟨pb, po + 2, none⟩)) rfl (by kernel_rfl) (by kernel_rfl) (by kernel_rfl) (fun _ _ _ h => h) (Or.inl ⟨by rfl, fun w' _ => by go_simp⟩) trivial ?_
    simp only [Act.put, List.setIfInBounds_toArray, List.set_cons_zero, List.set_cons_succ]
    refine wpAnyH_takeL (i := 5) (v := .pointer (some ⟨pb, po, none⟩)) rfl (by kernel_rfl) (by kernel_rfl) (by kernel_rfl) (fun _ _ _ h => h) (Or.inl ⟨by rfl, fun w' _ => by go_simp⟩) trivial ?_
    simp only [Act.put, List.setIfInBounds_toArray, List.set_cons_zero, List.set_cons_succ]
    refine wpAnyH_takeL (i := 6) (v := .pointer (some ⟨pb, po, none⟩)) rfl (by kernel_rfl) (by kernel_rfl) (by kernel_rfl) (fun _ _ _ h => h) (Or.inl ⟨by rfl, fun w' _ => by go_simp⟩) trivial ?_
    simp only [Act.put, List.setIfInBounds_toArray, List.set_cons_zero, List.set_cons_succ]
    refine wpAnyH_takeL (i := 7) (v := .pointer (some ⟨pb, po + 1, none⟩)) rfl (by kernel_rfl) (by kernel_rfl) (by kernel_rfl) (fun _ _ _ h => h) (Or.inl ⟨by rfl, fun w' _ => by go_simp⟩) trivial ?_
    simp only [Act.put, List.setIfInBounds_toArray, List.set_cons_zero, List.set_cons_succ]
    refine wpAnyH_takeL (i := 9) (v := .int .i64 i) rfl (by kernel_rfl) (by kernel_rfl) (by kernel_rfl) (fun _ _ _ h => h) (Or.inl ⟨by rfl, fun w' _ => by go_simp⟩) trivial ?_
    simp only [Act.put, List.setIfInBounds_toArray, List.set_cons_zero, List.set_cons_succ]
    refine wpAnyH_inv (m := 4) (I := fun n l a W => ∃ x y v21 v25 v27 v28 v29, n + x + y = 5 ∧ x ≤ 1 ∧ y ≤ 4 ∧ l = #[true, true, true, true, decide (1 ≤ x), true, true, true, decide (1 ≤ y), true, decide (2 ≤ y), decide (3 ≤ y), decide (4 ≤ y), false, false, false, false] ∧ a = ⟨#[.pointer (some ⟨pb, po, none⟩), .int .i64 i, undef, undef, .pointer (some ⟨pb, po, none⟩), .pointer (some ⟨pb, po, none⟩), .pointer (some ⟨pb, po + 2, none⟩), .slice A3 h.length c3, .pointer (some ⟨pb, po, none⟩), .pointer (some ⟨pb, po, none⟩), .pointer (some ⟨pb, po + 1, none⟩), .slice (some ⟨b, off, none⟩) r.length c2, .int .i64 i, .pointer (some ⟨b, off + i * 3, none⟩), .agg #[.string m.f, .int .i64 m.n, .string m.b], .bool false, .bool true, .pointer (some ⟨pb, po, none⟩), .pointer (some ⟨pb, po, none⟩), .pointer (some ⟨pb, po, none⟩), .pointer (some ⟨pb, po + 2, none⟩), v21, .pointer (some ⟨pb, po, none⟩), .pointer (some ⟨pb, po, none⟩), .pointer (some ⟨pb, po + 1, none⟩), v25, .int .i64 i, v27, v28, v29, undef, undef, undef], []⟩ ∧ (1 ≤ x → v21 = .slice A3 h.length c3) ∧ (1 ≤ y → v25 = .slice (some ⟨b, off, none⟩) r.length c2) ∧ (2 ≤ y → v27 = .pointer (some ⟨b, off + i * 3, none⟩)) ∧ (3 ≤ y → v28 = .agg #[.string m.f, .int .i64 m.n, .string m.b]) ∧ ((y ≤ 3 ∧ W = W1) ∨ (y = 4 ∧ v29 = .slice (some ⟨W1.heap.size, 0, none⟩) 1 1 ∧ W = W1.alloc (.cells #[.string m.f, .int .i64 m.n, .string m.b] 33))) ∧ W.cell? ⟨pb, po, none⟩ = some (.slice A1 s.length c1) ∧ W.cell? ⟨pb, po + 1, none⟩ = some (.slice (some ⟨b, off, none⟩) r.length c2) ∧ W.cell? ⟨pb, po + 2, none⟩ = some (.slice A3 h.length c3) ∧ W.cell? ⟨b, off + i * 3, none⟩ = some (.string m.f) ∧ W.cell? ⟨b, off + i * 3 + 1, none⟩ = some (.int .i64 m.n) ∧ W.cell? ⟨b, off + i * 3 + 2, none⟩ = some (.string m.b)) ?_ ?_ 5 _ _ _ ⟨0, 0, undef, undef, undef, undef, undef, rfl, by omega, by omega, rfl, rfl, by omega, by omega, by omega, by omega, .inl ⟨by omega, rfl⟩, hcls'⟩
    · rintro n l a W ⟨x, y, v21, v25, v27, v28, v29, hn, hx, hy, rfl, rfl, e21, e25, e27, e28, hW, hc⟩
      refine ⟨?_, fun i' o ho hi K hK => ?_⟩
      · rcases (by omega : x = 0 ∨ x = 1) with rfl | rfl <;> rcases (by omega : y = 0 ∨ y = 1 ∨ y = 2 ∨ y = 3 ∨ y = 4) with rfl | rfl | rfl | rfl | rfl <;> first | kernel_rfl | (exfalso; omega)
      · obtain ⟨hun, _⟩ := mem_ready.1 hi
        have hcont := List.contains_iff_mem.2 hi
        obtain ⟨z0, z1, z2, z3, z4, z5⟩ := id hc
        have hi17 : i' = 0 ∨ i' = 1 ∨ i' = 2 ∨ i' = 3 ∨ i' = 4 ∨ i' = 5 ∨ i' = 6 ∨ i' = 7 ∨ i' = 8 ∨ i' = 9 ∨ i' = 10 ∨ i' = 11 ∨ i' = 12 ∨ i' = 13 ∨ i' = 14 ∨ i' = 15 ∨ i' = 16 := by
          have := (List.getElem?_eq_some_iff.1 ho).1
          simp only [List.length_cons, List.length_nil] at this
          omega
        rcases hi17 with rfl | rfl | rfl | rfl | rfl | rfl | rfl | rfl | rfl | rfl | rfl | rfl | rfl | rfl | rfl | rfl | rfl
        · cases hun
        · cases hun
        · cases hun
        · cases hun
        · have hx0 : x = 0 := by have := of_decide_eq_false hun; omega
          subst hx0
          obtain rfl := Option.some.inj ho
          clear ho hi hcont hun
          go_simp
          exact hK.out _ _ trivial ⟨1, y, _, v25, v27, v28, v29, by omega, by omega, by omega, rfl, rfl, fun _ => rfl, e25, e27, e28, hW, hc⟩
        · cases hun
        · cases hun
        · cases hun
        · have hy1 : y ≤ 0 := by have := of_decide_eq_false hun; omega
          have hy0 : y = 0 := by
            omega
          subst hy0
          obtain rfl := Option.some.inj ho
          clear ho hi hcont hun
          replace hW : W = W1 := hW.elim And.right (fun h => absurd h.1 (by omega))
          subst hW
          go_simp
          exact hK.out _ _ trivial ⟨x, 1, v21, _, v27, v28, v29, by omega, by omega, by omega, rfl, rfl, e21, fun _ => rfl, by omega, by omega, .inl ⟨by omega, rfl⟩, hc⟩
        · cases hun
        · have hy1 : y ≤ 1 := by have := of_decide_eq_false hun; omega
          have hy0 : y = 1 := by
            rcases (by omega : x = 0 ∨ x = 1) with rfl | rfl <;> rcases (by omega : y = 0 ∨ y = 1) with rfl | rfl <;> first | rfl | exact absurd (hcont.symm.trans (by kernel_rfl : _ = false)) (by decide)
          subst hy0
          obtain rfl := Option.some.inj ho
          clear ho hi hcont hun
          replace hW : W = W1 := hW.elim And.right (fun h => absurd h.1 (by omega))
          obtain rfl := e25 (by omega)
          subst hW
          go_simp
          exact hK.out _ _ trivial ⟨x, 2, v21, _, _, v28, v29, by omega, by omega, by omega, rfl, rfl, e21, fun _ => rfl, fun _ => rfl, by omega, .inl ⟨by omega, rfl⟩, hc⟩
        · have hy1 : y ≤ 2 := by have := of_decide_eq_false hun; omega
          have hy0 : y = 2 := by
            rcases (by omega : x = 0 ∨ x = 1) with rfl | rfl <;> rcases (by omega : y = 0 ∨ y = 1 ∨ y = 2) with rfl | rfl | rfl <;> first | rfl | exact absurd (hcont.symm.trans (by kernel_rfl : _ = false)) (by decide)
          subst hy0
          obtain rfl := Option.some.inj ho
          clear ho hi hcont hun
          replace hW : W = W1 := hW.elim And.right (fun h => absurd h.1 (by omega))
          obtain rfl := e25 (by omega)
          obtain rfl := e27 (by omega)
          subst hW
          go_simp
          exact hK.out _ _ trivial ⟨x, 3, v21, _, _, _, v29, by omega, by omega, by omega, rfl, rfl, e21, fun _ => rfl, fun _ => rfl, fun _ => rfl, .inl ⟨by omega, rfl⟩, hc⟩
        · have hy1 : y ≤ 3 := by have := of_decide_eq_false hun; omega
          have hy0 : y = 3 := by
            rcases (by omega : x = 0 ∨ x = 1) with rfl | rfl <;> rcases (by omega : y = 0 ∨ y = 1 ∨ y = 2 ∨ y = 3) with rfl | rfl | rfl | rfl <;> first | rfl | exact absurd (hcont.symm.trans (by kernel_rfl : _ = false)) (by decide)
          subst hy0
          obtain rfl := Option.some.inj ho
          clear ho hi hcont hun
          replace hW : W = W1 := hW.elim And.right (fun h => absurd h.1 (by omega))
          obtain rfl := e25 (by omega)
          obtain rfl := e27 (by omega)
          obtain rfl := e28 (by omega)
          subst hW
          go_simp
          exact hK.out _ _ trivial ⟨x, 4, v21, _, _, _, _, by omega, by omega, by omega, rfl, rfl, e21, fun _ => rfl, fun _ => rfl, fun _ => rfl, .inr ⟨rfl, rfl, rfl⟩, lay _ z0, lay _ z1, lay _ z2, lay _ z3, lay _ z4, lay _ z5⟩
        · exfalso
          rcases (by omega : x = 0 ∨ x = 1) with rfl | rfl <;> rcases (by omega : y = 0 ∨ y = 1 ∨ y = 2 ∨ y = 3 ∨ y = 4) with rfl | rfl | rfl | rfl | rfl <;> first | omega | exact absurd (hcont.symm.trans (by kernel_rfl : _ = false)) (by decide)
        · exfalso
          rcases (by omega : x = 0 ∨ x = 1) with rfl | rfl <;> rcases (by omega : y = 0 ∨ y = 1 ∨ y = 2 ∨ y = 3 ∨ y = 4) with rfl | rfl | rfl | rfl | rfl <;> first | omega | exact absurd (hcont.symm.trans (by kernel_rfl : _ = false)) (by decide)
        · exfalso
          rcases (by omega : x = 0 ∨ x = 1) with rfl | rfl <;> rcases (by omega : y = 0 ∨ y = 1 ∨ y = 2 ∨ y = 3 ∨ y = 4) with rfl | rfl | rfl | rfl | rfl <;> first | omega | exact absurd (hcont.symm.trans (by kernel_rfl : _ = false)) (by decide)
        · exfalso
          rcases (by omega : x = 0 ∨ x = 1) with rfl | rfl <;> rcases (by omega : y = 0 ∨ y = 1 ∨ y = 2 ∨ y = 3 ∨ y = 4) with rfl | rfl | rfl | rfl | rfl <;> first | omega | exact absurd (hcont.symm.trans (by kernel_rfl : _ = false)) (by decide)
    · rintro l a W ⟨x, y, v21, v25, v27, v28, v29, hn, hx, hy, rfl, rfl, e21, e25, e27, e28, hW, hc⟩
      obtain ⟨rfl, rfl⟩ : x = 1 ∧ y = 4 := by omega
      obtain rfl := e21 (by omega)
      rcases hW with ⟨h, _⟩ | ⟨_, rfl, rfl⟩
      · omega
      change wpAnyH _ _ _ _ _ _ #[true, true, true, true, true, true, true, true, true, true, true, true, true, false, false, false, false] _ _
      refine wpAnyH_ready (rs := [13]) (by kernel_rfl) (by simp) ?_
      refine AllReadyH.consL rfl (fun K hK => ?_) AllReadyH.nil
      rw [if_pos (by rfl)]
      have hbs' : base ≤ (W1.alloc (.cells #[.string m.f, .int .i64 m.n, .string m.b] 33)).heap.size := by simp; omega
      refine wp_append_all (W1.alloc (.cells #[.string m.f, .int .i64 m.n, .string m.b] 33)) (.tmp 21) (.tmp 29) _ rfl i0 _ _ Tryz.underlying24 hi0 hz0 hz1 hz2 rfl (by omega) Msg.len Msg.one (hO.o3.alloc _) (sl_one W1 m) rfl rfl (by simp only [List.length_cons, List.length_nil]; unfold maxLen; omega) (by simp only [List.length_cons, List.length_nil]; omega) hbs' ?_
      intro A' c' V hOw hbw hbut hd
      refine hK.out _ _ trivial (fun _ => ?_)
      clear hK K
      have hO3 := (hO.below ((Below.refl _ _).alloc (Nat.le_refl _) _)).push3 hOw hbut hd
      have hlt : pb < W1.heap.size := hX.lt
      have hX3 := (hX.alloc (.cells #[.string m.f, .int .i64 m.n, .string m.b] 33)).same (hbut pb (hX.alloc _).lt (fun a ha => hd3 a _ ha rfl))
      have hdN := hd (some ⟨pb, 0, none⟩) hd3 (fun a ha => by injection ha with ha; subst ha; simp; omega)
      obtain ⟨g0, g1, g2, g3, g4, g5⟩ := id hX3
      refine wpAnyH_takeL (i := 14) (v := .pointer (some ⟨pb, po, none⟩)) rfl (by kernel_rfl) (by kernel_rfl) (by kernel_rfl) (fun _ _ _ h => h) (Or.inl ⟨by rfl, fun w' _ => by go_simp⟩) trivial ?_
      simp only [Act.put, List.setIfInBounds_toArray, List.set_cons_zero, List.set_cons_succ]
      refine wpAnyH_takeL (i := 15) (v := .pointer (some ⟨pb, po + 2, none⟩)) rfl (by kernel_rfl) (by kernel_rfl) (by kernel_rfl) (fun _ _ _ h => h) (Or.inl ⟨by rfl, fun w' _ => by go_simp⟩) trivial ?_
      simp only [Act.put, List.setIfInBounds_toArray, List.set_cons_zero, List.set_cons_succ]
      refine wpAnyH_ready (rs := [16]) (by kernel_rfl) (by simp) ?_
      refine AllReadyH.consL rfl (fun K hK => ?_) AllReadyH.nil
      go_simp
      refine hK.out _ _ trivial (fun _ => ?_)
      refine wpAnyH_done (by kernel_rfl) ?_ _
      have hFg : Fr pb (pb + 1) V (V.setCell ⟨pb, po + 2, none⟩ (.slice A' (h ++ [m]).length c')) := (Fr.refl _ _ _).setCell ⟨by simp, by simp⟩ _
      have hO4 := hO3.apart hFg hd1 hd2 hdN
      have hX4 := hX3.set2 (.slice A' (h ++ [m]).length c')
      have hB4 : Below base w (V.setCell ⟨pb, po + 2, none⟩ (.slice A' (h ++ [m]).length c')) := (((hW0'.mono hbs).alloc (by omega) _).trans hbw).trans (hFg.below (by omega) (by have := hbw.size; omega))
      have hBP : ButP A3 pb w (V.setCell ⟨pb, po + 2, none⟩ (.slice A' (h ++ [m]).length c')) := fun q hq hne hA2 => by
        have hq1 : q < (W1.alloc (.cells #[.string m.f, .int .i64 m.n, .string m.b] 33)).heap.size := by simp; omega
        rw [hFg.block q (by have := hbw.size; omega) (by omega), hbut q hq1 hA2, ((Below.refl _ W1).alloc (Nat.le_refl _) _).block q (by omega), hW0'.block q hq]
      go_wp2
      refine bodyPost_end (results_none Tryz.results73 _ _ _) rfl ?_
      obtain rfl := hA.out
      rw [show h.length + 1 = (h ++ [m]).length by simp]
      exact ⟨rfl, A', c', hX4, hO4, hdN, hB4, hBP, fun A h1 h2 => hd A h1 (fun a ha => by have := h2 a ha; simp; omega), BoxB.of ((hbut pb (hX.alloc _).lt (fun a ha => hd3 a _ ha rfl)).trans ((((Below.refl _ W1).alloc (Nat.le_refl _) _).block pb hlt).trans (hW0'.block pb hpw)))⟩
end Go.Proofs.YtjmjilkpckbpeaaGreatDoor
namespace Go.Proofs.YtjmjilkpckbpeaaGreatDoor
open Go.RowKit

theorem addW_eq {all l : List Msg} {m : Msg} (hU : KeyU all) (hl : ∀ x ∈ l, x ∈ all) (hm : m ∈ all) : addW l m = addM l m := by
  unfold addW addM
  rw [any_key hU hl hm]
def okI (s r h : List Msg) (n : Nat) (i : Int) : Bool := chanB s r h && inB i 0 ((n : Int) - 1)
/-- A channel and a bool returned: t. -/
def RCT (w : World) (t : (List Msg × List Msg × List Msg) × Bool) : Ending → World → Prop := RCB w t.1.1 t.1.2.1 t.1.2.2 t.2
def chNo : (List Msg × List Msg × List Msg) × Bool := (([], [], []), false)
theorem nat_of {n : Nat} {i : Int} (h : inB i 0 ((n : Int) - 1) = true) : ∃ k : Nat, i = k ∧ k < n := by
  simp only [inB, Bool.and_eq_true, decide_eq_true_eq] at h
  exact ⟨i.toNat, by omega, by omega⟩
def delT (s r h : List Msg) (i : Int) : (List Msg × List Msg × List Msg) × Bool :=
  if okI s r h s.length i = true then (match s[i.toNat]? with | some m => ((s, addM r m, h), true) | none => chNo) else chNo
theorem delT_no {s r h : List Msg} {i : Int} (hg : okI s r h s.length i = false) : chNo = delT s r h i := by rw [delT, hg]; rfl
theorem delT_yes {s r h : List Msg} {k : Nat} {m : Msg} (hg : okI s r h s.length k = true) (hm : s[k]? = some m) : ((s, addM r m, h), true) = delT s r h k := by rw [delT, if_pos hg, Int.toNat_natCast, hm]
set_option maxRecDepth 100000 in
set_option maxHeartbeats 8000000 in
theorem Deliver_spec (As : Option Addr) (cs : Nat) (s : List Msg) (Ar : Option Addr) (cr : Nat) (r : List Msg) (Ah : Option Addr) (ch : Nat) (h : List Msg) (i : Int) (w : World) (hls : s.length ≤ 1048576) (hms : ∀ y ∈ s, y.f.size ≤ 1048576 ∧ y.b.size ≤ 1048576) (hSs : Msgs w 0 w.heap.size As s) (hcs : s.length ≤ cs) (hlr : r.length ≤ 1048576) (hmr : ∀ y ∈ r, y.f.size ≤ 1048576 ∧ y.b.size ≤ 1048576) (hSr : Msgs w 0 w.heap.size Ar r) (hcr : r.length ≤ cr) (hlh : h.length ≤ 1048576) (hmh : ∀ y ∈ h, y.f.size ≤ 1048576 ∧ y.b.size ≤ 1048576) (hSh : Msgs w 0 w.heap.size Ah h) (hch : h.length ≤ ch) :
    Calls Tryz.prog 9 #[.agg #[.slice As s.length cs, .slice Ar r.length cr, .slice Ah h.length ch], .int .i64 i] w (RCT w (delT s r h i)) := by
  generalize hT : delT s r h i = t
  replace hT := Lib.hid hT
  have e1 : (w.alloc (.cells #[.slice As s.length cs, .slice Ar r.length cr, .slice Ah h.length ch] 26)).heap.size = w.heap.size + 1 := by simp
  have hX := (B3.new w (.slice As s.length cs) (.slice Ar r.length cr) (.slice Ah h.length ch) 26 _ rfl).alloc (.cells #[.slice none 0 0, .slice none 0 0, .slice none 0 0] 26)
  have hR := B3.new (w.alloc (.cells #[.slice As s.length cs, .slice Ar r.length cr, .slice Ah h.length ch] 26)) (.slice none 0 0) (.slice none 0 0) (.slice none 0 0) 26 (w.heap.size + 1) e1.symm
  obtain ⟨b0, b1, b2, _, _, _⟩ := id hX
  go_enter Tryz.func9, Tryz.ntmps9
  go_wp2_with fail
  refine (raGood_any As cs s Ar cr r Ah ch h _ hls hms ((hSs.alloc _).alloc _).all hcs hlr hmr ((hSr.alloc _).alloc _).all hcr hlh hmh ((hSh.alloc _).alloc _).all hch).mono ?_
  rintro e v1 ⟨rfl, hb⟩
  have hB : Below w.heap.size w v1 := Below.on' (by go_grown) hb
  replace hX := hX.below hb
  replace hR := hR.below hb
  clear b0 b1 b2 e1 hb
  obtain ⟨b0, b1, b2, _, _, _⟩ := id hX
  by_cases g : chanB s r h = true
  rotate_left
  · have g : chanB s r h = false := by simpa using g
    obtain rfl : chNo = t := (delT_no (by rw [okI, g]; rfl)).trans hT.out
    rw [g]
    obtain ⟨k0, k1, k2, f0, f1, f2⟩ := id hR
    have hR' := ((hR.set0 (.slice none 0 0)).set1 (.slice none 0 0)).set2 (.slice none 0 0)
    have hF : Fr (w.heap.size + 1) ((w.heap.size + 1) + 1) v1 (((v1.setCell ⟨(w.heap.size + 1), 0, none⟩ (.slice none 0 0)).setCell ⟨(w.heap.size + 1), 1, none⟩ (.slice none 0 0)).setCell ⟨(w.heap.size + 1), 2, none⟩ (.slice none 0 0)) := (((Fr.refl _ _ _).setCell ⟨by simp, by simp⟩ _).setCell ⟨by simp, by simp⟩ _).setCell ⟨by simp, by simp⟩ _
    have hB' := hB.trans (hF.below (B := w.heap.size) (by omega) (by have := hB.size; omega))
    have hI := IntC.nil_ _ (base := w.heap.size) hB'.size
    obtain ⟨x0, x1, x2, _, _, _⟩ := id hR'
    go_wp2
    refine bodyPost_ret (by simp [results, Tryz.results9, go_sem, x0, x1, x2]; try rfl) rfl ?_
    exact ⟨none, 0, none, 0, none, 0, rfl, hI, hB'⟩
  rw [g]
  go_wp2_with fail
  refine (l1In_any i 0 _ _).mono ?_
  rintro e v2 ⟨rfl, hb⟩
  replace hB := Below.on' hB hb
  replace hX := hX.below hb
  replace hR := hR.below hb
  clear b0 b1 b2 hb
  obtain ⟨b0, b1, b2, _, _, _⟩ := id hX
  by_cases g2 : inB i 0 ((s.length : Int) - 1) = true
  rotate_left
  · have g2 : inB i 0 ((s.length : Int) - 1) = false := by simpa using g2
    obtain rfl : chNo = t := (delT_no (by rw [okI, g, g2]; rfl)).trans hT.out
    rw [g2]
    obtain ⟨k0, k1, k2, f0, f1, f2⟩ := id hR
    have hR' := ((hR.set0 (.slice none 0 0)).set1 (.slice none 0 0)).set2 (.slice none 0 0)
    have hF : Fr (w.heap.size + 1) ((w.heap.size + 1) + 1) v2 (((v2.setCell ⟨(w.heap.size + 1), 0, none⟩ (.slice none 0 0)).setCell ⟨(w.heap.size + 1), 1, none⟩ (.slice none 0 0)).setCell ⟨(w.heap.size + 1), 2, none⟩ (.slice none 0 0)) := (((Fr.refl _ _ _).setCell ⟨by simp, by simp⟩ _).setCell ⟨by simp, by simp⟩ _).setCell ⟨by simp, by simp⟩ _
    have hB' := hB.trans (hF.below (B := w.heap.size) (by omega) (by have := hB.size; omega))
    have hI := IntC.nil_ _ (base := w.heap.size) hB'.size
    obtain ⟨x0, x1, x2, _, _, _⟩ := id hR'
    go_wp2
    refine bodyPost_ret (by simp [results, Tryz.results9, go_sem, x0, x1, x2]; try rfl) rfl ?_
    exact ⟨none, 0, none, 0, none, 0, rfl, hI, hB'⟩
  rw [g2]
  obtain ⟨k, rfl, hk⟩ := nat_of g2
  obtain ⟨m, hm, _⟩ := get_lt hk
  have G := ChanG.of g
  obtain rfl := (delT_yes (by rw [okI, g, g2]; rfl) hm).trans hT.out
  clear hT g g2
  go_wp2_with fail
  refine (raDeliver_any As cs s Ar cr r Ah ch h _ hls (hSs.below hB).all hlr (hSr.below hB).all hlh (hSh.below hB).all k m hm).mono ?_
  rw [addW_eq G.key G.rs (List.mem_of_getElem? hm)]
  rintro e v3 ⟨A1, c1, A2, c2, A3, c3, rfl, hO, hb⟩
  have hz := hR.lt
  replace hB := Below.on' hB hb
  replace hR := hR.below hb
  clear b0 b1 b2 hb
  obtain ⟨k0, k1, k2, f0, f1, f2⟩ := id hR
  have hR' := ((hR.set0 (.slice A1 s.length c1)).set1 (.slice A2 (addM r m).length c2)).set2 (.slice A3 h.length c3)
  have hF : Fr (w.heap.size + 1) ((w.heap.size + 1) + 1) v3 (((v3.setCell ⟨(w.heap.size + 1), 0, none⟩ (.slice A1 s.length c1)).setCell ⟨(w.heap.size + 1), 1, none⟩ (.slice A2 (addM r m).length c2)).setCell ⟨(w.heap.size + 1), 2, none⟩ (.slice A3 h.length c3)) := (((Fr.refl _ _ _).setCell ⟨by simp, by simp⟩ _).setCell ⟨by simp, by simp⟩ _).setCell ⟨by simp, by simp⟩ _
  have hB' := hB.trans (hF.below (B := w.heap.size) (by omega) (by have := hB.size; omega))
  have hO' := (hO.far hF (by omega)).lift (b0 := w.heap.size) (by omega); have hI := hO'.ints hB'.size
  obtain ⟨x0, x1, x2, _, _, _⟩ := id hR'
  go_wp2
  refine bodyPost_ret (by simp [results, Tryz.results9, go_sem, x0, x1, x2]; try rfl) rfl ?_
  exact ⟨A1, c1, A2, c2, A3, c3, rfl, hI, hB'⟩
set_option maxRecDepth 100000 in
set_option maxHeartbeats 8000000 in
theorem Deliver_impl (As : Option Addr) (cs : Nat) (s : List Msg) (Ar : Option Addr) (cr : Nat) (r : List Msg) (Ah : Option Addr) (ch : Nat) (h : List Msg) (i : Int) (w : World) (hls : s.length ≤ 1048576) (hms : ∀ y ∈ s, y.f.size ≤ 1048576 ∧ y.b.size ≤ 1048576) (hSs : Msgs w 0 w.heap.size As s) (hcs : s.length ≤ cs) (hlr : r.length ≤ 1048576) (hmr : ∀ y ∈ r, y.f.size ≤ 1048576 ∧ y.b.size ≤ 1048576) (hSr : Msgs w 0 w.heap.size Ar r) (hcr : r.length ≤ cr) (hlh : h.length ≤ 1048576) (hmh : ∀ y ∈ h, y.f.size ≤ 1048576 ∧ y.b.size ≤ 1048576) (hSh : Msgs w 0 w.heap.size Ah h) (hch : h.length ≤ ch) :
    Calls Tryz.prog 8 #[.agg #[.slice As s.length cs, .slice Ar r.length cr, .slice Ah h.length ch], .int .i64 i] w (RCT w (delT s r h i)) := by
  generalize hT : delT s r h i = t
  replace hT := Lib.hid hT
  have e1 : (w.alloc (.cells #[.slice As s.length cs, .slice Ar r.length cr, .slice Ah h.length ch] 26)).heap.size = w.heap.size + 1 := by simp
  have hX := (B3.new w (.slice As s.length cs) (.slice Ar r.length cr) (.slice Ah h.length ch) 26 _ rfl).alloc (.cells #[.slice none 0 0, .slice none 0 0, .slice none 0 0] 26)
  have hR := B3.new (w.alloc (.cells #[.slice As s.length cs, .slice Ar r.length cr, .slice Ah h.length ch] 26)) (.slice none 0 0) (.slice none 0 0) (.slice none 0 0) 26 (w.heap.size + 1) e1.symm
  obtain ⟨b0, b1, b2, _, _, _⟩ := id hX
  go_enter Tryz.func8, Tryz.ntmps8
  go_wp2_with fail
  refine (isChannel_any w.heap.size 0 As cs s Ar cr r Ah ch h _ hX.c3 hls hms ((hSs.alloc _).alloc _).all hcs hlr hmr ((hSr.alloc _).alloc _).all hcr hlh hmh ((hSh.alloc _).alloc _).all hch).mono ?_
  rintro e v1 ⟨rfl, hb⟩
  have hB : Below w.heap.size w v1 := Below.on' (by go_grown) hb
  replace hX := hX.below hb
  replace hR := hR.below hb
  clear b0 b1 b2 e1 hb
  obtain ⟨b0, b1, b2, _, _, _⟩ := id hX
  by_cases g : chanB s r h = true
  rotate_left
  · have g : chanB s r h = false := by simpa using g
    obtain rfl : chNo = t := (delT_no (by rw [okI, g]; rfl)).trans hT.out
    rw [g]
    obtain ⟨k0, k1, k2, f0, f1, f2⟩ := id hR
    have hR' := ((hR.set0 (.slice none 0 0)).set1 (.slice none 0 0)).set2 (.slice none 0 0)
    have hF : Fr (w.heap.size + 1) ((w.heap.size + 1) + 1) v1 (((v1.setCell ⟨(w.heap.size + 1), 0, none⟩ (.slice none 0 0)).setCell ⟨(w.heap.size + 1), 1, none⟩ (.slice none 0 0)).setCell ⟨(w.heap.size + 1), 2, none⟩ (.slice none 0 0)) := (((Fr.refl _ _ _).setCell ⟨by simp, by simp⟩ _).setCell ⟨by simp, by simp⟩ _).setCell ⟨by simp, by simp⟩ _
    have hB' := hB.trans (hF.below (B := w.heap.size) (by omega) (by have := hB.size; omega))
    have hI := IntC.nil_ _ (base := w.heap.size) hB'.size
    obtain ⟨x0, x1, x2, _, _, _⟩ := id hR'
    go_wp2
    refine bodyPost_ret (by simp [results, Tryz.results8, go_sem, x0, x1, x2]; try rfl) rfl ?_
    exact ⟨none, 0, none, 0, none, 0, rfl, hI, hB'⟩
  rw [g]
  go_wp2_with fail
  refine (inside_any i 0 _ _).mono ?_
  rintro e v2 ⟨rfl, hb⟩
  replace hB := Below.on' hB hb
  replace hX := hX.below hb
  replace hR := hR.below hb
  clear b0 b1 b2 hb
  obtain ⟨b0, b1, b2, _, _, _⟩ := id hX
  by_cases g2 : inB i 0 ((s.length : Int) - 1) = true
  rotate_left
  · have g2 : inB i 0 ((s.length : Int) - 1) = false := by simpa using g2
    obtain rfl : chNo = t := (delT_no (by rw [okI, g, g2]; rfl)).trans hT.out
    rw [g2]
    obtain ⟨k0, k1, k2, f0, f1, f2⟩ := id hR
    have hR' := ((hR.set0 (.slice none 0 0)).set1 (.slice none 0 0)).set2 (.slice none 0 0)
    have hF : Fr (w.heap.size + 1) ((w.heap.size + 1) + 1) v2 (((v2.setCell ⟨(w.heap.size + 1), 0, none⟩ (.slice none 0 0)).setCell ⟨(w.heap.size + 1), 1, none⟩ (.slice none 0 0)).setCell ⟨(w.heap.size + 1), 2, none⟩ (.slice none 0 0)) := (((Fr.refl _ _ _).setCell ⟨by simp, by simp⟩ _).setCell ⟨by simp, by simp⟩ _).setCell ⟨by simp, by simp⟩ _
    have hB' := hB.trans (hF.below (B := w.heap.size) (by omega) (by have := hB.size; omega))
    have hI := IntC.nil_ _ (base := w.heap.size) hB'.size
    obtain ⟨x0, x1, x2, _, _, _⟩ := id hR'
    go_wp2
    refine bodyPost_ret (by simp [results, Tryz.results8, go_sem, x0, x1, x2]; try rfl) rfl ?_
    exact ⟨none, 0, none, 0, none, 0, rfl, hI, hB'⟩
  rw [g2]
  obtain ⟨k, rfl, hk⟩ := nat_of g2
  obtain ⟨m, hm, _⟩ := get_lt hk
  have G := ChanG.of g
  obtain rfl := (delT_yes (by rw [okI, g, g2]; rfl) hm).trans hT.out
  clear hT g g2
  go_wp2_with fail
  refine (copyChannel_any w.heap.size 0 As cs s Ar cr r Ah ch h _ hX.c3 hls (hSs.below hB).all hlr (hSr.below hB).all hlh (hSh.below hB).all).mono ?_
  rintro e v3 ⟨A1, c1, A2, c2, A3, c3, rfl, hO, hb⟩
  have hz := hR.lt
  have hz3 := hb.size
  replace hB := Below.on' hB hb
  replace hR := hR.below hb
  clear b0 b1 b2 hb hX
  have hY := B3.new v3 (.slice A1 s.length c1) (.slice A2 r.length c2) (.slice A3 h.length c3) 26 _ rfl
  have k1 := hR.lt
  go_wp2_with fail
  refine (deliver_any v3.heap.size 0 v2.heap.size A1 c1 s A2 c2 r A3 c3 h _ hY.c3 (hO.alloc _) (by simp; omega) hz3 (dis_lt hO.o1.blk) (dis_lt hO.o2.blk) (dis_lt hO.o3.blk) hls hlr k m hm).mono ?_
  rintro e v4 ⟨A', c', rfl, hC, hO', _, hb, _, _⟩
  replace hO := hO'
  clear hO'
  have hY := hC.b3
  have hzz := hC.lt
  replace hB := (hB.alloc hB.size (.cells #[.slice A1 s.length c1, .slice A2 r.length c2, .slice A3 h.length c3] 26)).trans (hb.mono (by omega))
  replace hR := (hR.alloc (.cells #[.slice A1 s.length c1, .slice A2 r.length c2, .slice A3 h.length c3] 26)).upto (by omega) hb
  clear hb hC k1
  obtain ⟨y0, y1, y2, _, _, _⟩ := id hY
  have k1 := hY.lt
  obtain ⟨k0, k1, k2, f0, f1, f2⟩ := id hR
  have hR' := ((hR.set0 (.slice A1 s.length c1)).set1 (.slice A' (addM r m).length c')).set2 (.slice A3 h.length c3)
  have hF : Fr (w.heap.size + 1) ((w.heap.size + 1) + 1) v4 (((v4.setCell ⟨(w.heap.size + 1), 0, none⟩ (.slice A1 s.length c1)).setCell ⟨(w.heap.size + 1), 1, none⟩ (.slice A' (addM r m).length c')).setCell ⟨(w.heap.size + 1), 2, none⟩ (.slice A3 h.length c3)) := (((Fr.refl _ _ _).setCell ⟨by simp, by simp⟩ _).setCell ⟨by simp, by simp⟩ _).setCell ⟨by simp, by simp⟩ _
  have hB' := hB.trans (hF.below (B := w.heap.size) (by omega) (by have := hB.size; omega))
  have hO' := (hO.far hF (by omega)).lift (b0 := w.heap.size) (by omega); have hI := hO'.ints hB'.size
  obtain ⟨x0, x1, x2, _, _, _⟩ := id hR'
  go_wp2
  refine bodyPost_ret (by simp [results, Tryz.results8, go_sem, x0, x1, x2]; try rfl) rfl ?_
  exact ⟨A1, c1, A', c', A3, c3, rfl, hI, hB'⟩
def conT (s r h : List Msg) (i : Int) : (List Msg × List Msg × List Msg) × Bool :=
  if okI s r h r.length i = true then (match r[i.toNat]? with | some m => ((s, r, addM h m), true) | none => chNo) else chNo
theorem conT_no {s r h : List Msg} {i : Int} (hg : okI s r h r.length i = false) : chNo = conT s r h i := by rw [conT, hg]; rfl
theorem conT_yes {s r h : List Msg} {k : Nat} {m : Msg} (hg : okI s r h r.length k = true) (hm : r[k]? = some m) : ((s, r, addM h m), true) = conT s r h k := by rw [conT, if_pos hg, Int.toNat_natCast, hm]
set_option maxRecDepth 100000 in
set_option maxHeartbeats 8000000 in
theorem Confirm_spec (As : Option Addr) (cs : Nat) (s : List Msg) (Ar : Option Addr) (cr : Nat) (r : List Msg) (Ah : Option Addr) (ch : Nat) (h : List Msg) (i : Int) (w : World) (hls : s.length ≤ 1048576) (hms : ∀ y ∈ s, y.f.size ≤ 1048576 ∧ y.b.size ≤ 1048576) (hSs : Msgs w 0 w.heap.size As s) (hcs : s.length ≤ cs) (hlr : r.length ≤ 1048576) (hmr : ∀ y ∈ r, y.f.size ≤ 1048576 ∧ y.b.size ≤ 1048576) (hSr : Msgs w 0 w.heap.size Ar r) (hcr : r.length ≤ cr) (hlh : h.length ≤ 1048576) (hmh : ∀ y ∈ h, y.f.size ≤ 1048576 ∧ y.b.size ≤ 1048576) (hSh : Msgs w 0 w.heap.size Ah h) (hch : h.length ≤ ch) :
    Calls Tryz.prog 15 #[.agg #[.slice As s.length cs, .slice Ar r.length cr, .slice Ah h.length ch], .int .i64 i] w (RCT w (conT s r h i)) := by
  generalize hT : conT s r h i = t
  replace hT := Lib.hid hT
  have e1 : (w.alloc (.cells #[.slice As s.length cs, .slice Ar r.length cr, .slice Ah h.length ch] 26)).heap.size = w.heap.size + 1 := by simp
  have hX := (B3.new w (.slice As s.length cs) (.slice Ar r.length cr) (.slice Ah h.length ch) 26 _ rfl).alloc (.cells #[.slice none 0 0, .slice none 0 0, .slice none 0 0] 26)
  have hR := B3.new (w.alloc (.cells #[.slice As s.length cs, .slice Ar r.length cr, .slice Ah h.length ch] 26)) (.slice none 0 0) (.slice none 0 0) (.slice none 0 0) 26 (w.heap.size + 1) e1.symm
  obtain ⟨b0, b1, b2, _, _, _⟩ := id hX
  go_enter Tryz.func15, Tryz.ntmps15
  go_wp2_with fail
  refine (raGood_any As cs s Ar cr r Ah ch h _ hls hms ((hSs.alloc _).alloc _).all hcs hlr hmr ((hSr.alloc _).alloc _).all hcr hlh hmh ((hSh.alloc _).alloc _).all hch).mono ?_
  rintro e v1 ⟨rfl, hb⟩
  have hB : Below w.heap.size w v1 := Below.on' (by go_grown) hb
  replace hX := hX.below hb
  replace hR := hR.below hb
  clear b0 b1 b2 e1 hb
  obtain ⟨b0, b1, b2, _, _, _⟩ := id hX
  by_cases g : chanB s r h = true
  rotate_left
  · have g : chanB s r h = false := by simpa using g
    obtain rfl : chNo = t := (conT_no (by rw [okI, g]; rfl)).trans hT.out
    rw [g]
    obtain ⟨k0, k1, k2, f0, f1, f2⟩ := id hR
    have hR' := ((hR.set0 (.slice none 0 0)).set1 (.slice none 0 0)).set2 (.slice none 0 0)
    have hF : Fr (w.heap.size + 1) ((w.heap.size + 1) + 1) v1 (((v1.setCell ⟨(w.heap.size + 1), 0, none⟩ (.slice none 0 0)).setCell ⟨(w.heap.size + 1), 1, none⟩ (.slice none 0 0)).setCell ⟨(w.heap.size + 1), 2, none⟩ (.slice none 0 0)) := (((Fr.refl _ _ _).setCell ⟨by simp, by simp⟩ _).setCell ⟨by simp, by simp⟩ _).setCell ⟨by simp, by simp⟩ _
    have hB' := hB.trans (hF.below (B := w.heap.size) (by omega) (by have := hB.size; omega))
    have hI := IntC.nil_ _ (base := w.heap.size) hB'.size
    obtain ⟨x0, x1, x2, _, _, _⟩ := id hR'
    go_wp2
    refine bodyPost_ret (by simp [results, Tryz.results15, go_sem, x0, x1, x2]; try rfl) rfl ?_
    exact ⟨none, 0, none, 0, none, 0, rfl, hI, hB'⟩
  rw [g]
  go_wp2_with fail
  refine (l1In_any i 0 _ _).mono ?_
  rintro e v2 ⟨rfl, hb⟩
  replace hB := Below.on' hB hb
  replace hX := hX.below hb
  replace hR := hR.below hb
  clear b0 b1 b2 hb
  obtain ⟨b0, b1, b2, _, _, _⟩ := id hX
  by_cases g2 : inB i 0 ((r.length : Int) - 1) = true
  rotate_left
  · have g2 : inB i 0 ((r.length : Int) - 1) = false := by simpa using g2
    obtain rfl : chNo = t := (conT_no (by rw [okI, g, g2]; rfl)).trans hT.out
    rw [g2]
    obtain ⟨k0, k1, k2, f0, f1, f2⟩ := id hR
    have hR' := ((hR.set0 (.slice none 0 0)).set1 (.slice none 0 0)).set2 (.slice none 0 0)
    have hF : Fr (w.heap.size + 1) ((w.heap.size + 1) + 1) v2 (((v2.setCell ⟨(w.heap.size + 1), 0, none⟩ (.slice none 0 0)).setCell ⟨(w.heap.size + 1), 1, none⟩ (.slice none 0 0)).setCell ⟨(w.heap.size + 1), 2, none⟩ (.slice none 0 0)) := (((Fr.refl _ _ _).setCell ⟨by simp, by simp⟩ _).setCell ⟨by simp, by simp⟩ _).setCell ⟨by simp, by simp⟩ _
    have hB' := hB.trans (hF.below (B := w.heap.size) (by omega) (by have := hB.size; omega))
    have hI := IntC.nil_ _ (base := w.heap.size) hB'.size
    obtain ⟨x0, x1, x2, _, _, _⟩ := id hR'
    go_wp2
    refine bodyPost_ret (by simp [results, Tryz.results15, go_sem, x0, x1, x2]; try rfl) rfl ?_
    exact ⟨none, 0, none, 0, none, 0, rfl, hI, hB'⟩
  rw [g2]
  obtain ⟨k, rfl, hk⟩ := nat_of g2
  obtain ⟨m, hm, _⟩ := get_lt hk
  have G := ChanG.of g
  obtain rfl := (conT_yes (by rw [okI, g, g2]; rfl) hm).trans hT.out
  clear hT g g2
  go_wp2_with fail
  refine (raConfirm_any As cs s Ar cr r Ah ch h _ hls (hSs.below hB).all hlr (hSr.below hB).all hlh (hSh.below hB).all k m hm).mono ?_
  rw [addW_eq G.key G.hs (G.rs _ (List.mem_of_getElem? hm))]
  rintro e v3 ⟨A1, c1, A2, c2, A3, c3, rfl, hO, hb⟩
  have hz := hR.lt
  replace hB := Below.on' hB hb
  replace hR := hR.below hb
  clear b0 b1 b2 hb
  obtain ⟨k0, k1, k2, f0, f1, f2⟩ := id hR
  have hR' := ((hR.set0 (.slice A1 s.length c1)).set1 (.slice A2 r.length c2)).set2 (.slice A3 (addM h m).length c3)
  have hF : Fr (w.heap.size + 1) ((w.heap.size + 1) + 1) v3 (((v3.setCell ⟨(w.heap.size + 1), 0, none⟩ (.slice A1 s.length c1)).setCell ⟨(w.heap.size + 1), 1, none⟩ (.slice A2 r.length c2)).setCell ⟨(w.heap.size + 1), 2, none⟩ (.slice A3 (addM h m).length c3)) := (((Fr.refl _ _ _).setCell ⟨by simp, by simp⟩ _).setCell ⟨by simp, by simp⟩ _).setCell ⟨by simp, by simp⟩ _
  have hB' := hB.trans (hF.below (B := w.heap.size) (by omega) (by have := hB.size; omega))
  have hO' := (hO.far hF (by omega)).lift (b0 := w.heap.size) (by omega); have hI := hO'.ints hB'.size
  obtain ⟨x0, x1, x2, _, _, _⟩ := id hR'
  go_wp2
  refine bodyPost_ret (by simp [results, Tryz.results15, go_sem, x0, x1, x2]; try rfl) rfl ?_
  exact ⟨A1, c1, A2, c2, A3, c3, rfl, hI, hB'⟩
set_option maxRecDepth 100000 in
set_option maxHeartbeats 8000000 in
theorem Confirm_impl (As : Option Addr) (cs : Nat) (s : List Msg) (Ar : Option Addr) (cr : Nat) (r : List Msg) (Ah : Option Addr) (ch : Nat) (h : List Msg) (i : Int) (w : World) (hls : s.length ≤ 1048576) (hms : ∀ y ∈ s, y.f.size ≤ 1048576 ∧ y.b.size ≤ 1048576) (hSs : Msgs w 0 w.heap.size As s) (hcs : s.length ≤ cs) (hlr : r.length ≤ 1048576) (hmr : ∀ y ∈ r, y.f.size ≤ 1048576 ∧ y.b.size ≤ 1048576) (hSr : Msgs w 0 w.heap.size Ar r) (hcr : r.length ≤ cr) (hlh : h.length ≤ 1048576) (hmh : ∀ y ∈ h, y.f.size ≤ 1048576 ∧ y.b.size ≤ 1048576) (hSh : Msgs w 0 w.heap.size Ah h) (hch : h.length ≤ ch) :
    Calls Tryz.prog 14 #[.agg #[.slice As s.length cs, .slice Ar r.length cr, .slice Ah h.length ch], .int .i64 i] w (RCT w (conT s r h i)) := by
  generalize hT : conT s r h i = t
  replace hT := Lib.hid hT
  have e1 : (w.alloc (.cells #[.slice As s.length cs, .slice Ar r.length cr, .slice Ah h.length ch] 26)).heap.size = w.heap.size + 1 := by simp
  have hX := (B3.new w (.slice As s.length cs) (.slice Ar r.length cr) (.slice Ah h.length ch) 26 _ rfl).alloc (.cells #[.slice none 0 0, .slice none 0 0, .slice none 0 0] 26)
  have hR := B3.new (w.alloc (.cells #[.slice As s.length cs, .slice Ar r.length cr, .slice Ah h.length ch] 26)) (.slice none 0 0) (.slice none 0 0) (.slice none 0 0) 26 (w.heap.size + 1) e1.symm
  obtain ⟨b0, b1, b2, _, _, _⟩ := id hX
  go_enter Tryz.func14, Tryz.ntmps14
  go_wp2_with fail
  refine (isChannel_any w.heap.size 0 As cs s Ar cr r Ah ch h _ hX.c3 hls hms ((hSs.alloc _).alloc _).all hcs hlr hmr ((hSr.alloc _).alloc _).all hcr hlh hmh ((hSh.alloc _).alloc _).all hch).mono ?_
  rintro e v1 ⟨rfl, hb⟩
  have hB : Below w.heap.size w v1 := Below.on' (by go_grown) hb
  replace hX := hX.below hb
  replace hR := hR.below hb
  clear b0 b1 b2 e1 hb
  obtain ⟨b0, b1, b2, _, _, _⟩ := id hX
  by_cases g : chanB s r h = true
  rotate_left
  · have g : chanB s r h = false := by simpa using g
    obtain rfl : chNo = t := (conT_no (by rw [okI, g]; rfl)).trans hT.out
    rw [g]
    obtain ⟨k0, k1, k2, f0, f1, f2⟩ := id hR
    have hR' := ((hR.set0 (.slice none 0 0)).set1 (.slice none 0 0)).set2 (.slice none 0 0)
    have hF : Fr (w.heap.size + 1) ((w.heap.size + 1) + 1) v1 (((v1.setCell ⟨(w.heap.size + 1), 0, none⟩ (.slice none 0 0)).setCell ⟨(w.heap.size + 1), 1, none⟩ (.slice none 0 0)).setCell ⟨(w.heap.size + 1), 2, none⟩ (.slice none 0 0)) := (((Fr.refl _ _ _).setCell ⟨by simp, by simp⟩ _).setCell ⟨by simp, by simp⟩ _).setCell ⟨by simp, by simp⟩ _
    have hB' := hB.trans (hF.below (B := w.heap.size) (by omega) (by have := hB.size; omega))
    have hI := IntC.nil_ _ (base := w.heap.size) hB'.size
    obtain ⟨x0, x1, x2, _, _, _⟩ := id hR'
    go_wp2
    refine bodyPost_ret (by simp [results, Tryz.results14, go_sem, x0, x1, x2]; try rfl) rfl ?_
    exact ⟨none, 0, none, 0, none, 0, rfl, hI, hB'⟩
  rw [g]
  go_wp2_with fail
  refine (inside_any i 0 _ _).mono ?_
  rintro e v2 ⟨rfl, hb⟩
  replace hB := Below.on' hB hb
  replace hX := hX.below hb
  replace hR := hR.below hb
  clear b0 b1 b2 hb
  obtain ⟨b0, b1, b2, _, _, _⟩ := id hX
  by_cases g2 : inB i 0 ((r.length : Int) - 1) = true
  rotate_left
  · have g2 : inB i 0 ((r.length : Int) - 1) = false := by simpa using g2
    obtain rfl : chNo = t := (conT_no (by rw [okI, g, g2]; rfl)).trans hT.out
    rw [g2]
    obtain ⟨k0, k1, k2, f0, f1, f2⟩ := id hR
    have hR' := ((hR.set0 (.slice none 0 0)).set1 (.slice none 0 0)).set2 (.slice none 0 0)
    have hF : Fr (w.heap.size + 1) ((w.heap.size + 1) + 1) v2 (((v2.setCell ⟨(w.heap.size + 1), 0, none⟩ (.slice none 0 0)).setCell ⟨(w.heap.size + 1), 1, none⟩ (.slice none 0 0)).setCell ⟨(w.heap.size + 1), 2, none⟩ (.slice none 0 0)) := (((Fr.refl _ _ _).setCell ⟨by simp, by simp⟩ _).setCell ⟨by simp, by simp⟩ _).setCell ⟨by simp, by simp⟩ _
    have hB' := hB.trans (hF.below (B := w.heap.size) (by omega) (by have := hB.size; omega))
    have hI := IntC.nil_ _ (base := w.heap.size) hB'.size
    obtain ⟨x0, x1, x2, _, _, _⟩ := id hR'
    go_wp2
    refine bodyPost_ret (by simp [results, Tryz.results14, go_sem, x0, x1, x2]; try rfl) rfl ?_
    exact ⟨none, 0, none, 0, none, 0, rfl, hI, hB'⟩
  rw [g2]
  obtain ⟨k, rfl, hk⟩ := nat_of g2
  obtain ⟨m, hm, _⟩ := get_lt hk
  have G := ChanG.of g
  obtain rfl := (conT_yes (by rw [okI, g, g2]; rfl) hm).trans hT.out
  clear hT g g2
  go_wp2_with fail
  refine (copyChannel_any w.heap.size 0 As cs s Ar cr r Ah ch h _ hX.c3 hls (hSs.below hB).all hlr (hSr.below hB).all hlh (hSh.below hB).all).mono ?_
  rintro e v3 ⟨A1, c1, A2, c2, A3, c3, rfl, hO, hb⟩
  have hz := hR.lt
  have hz3 := hb.size
  replace hB := Below.on' hB hb
  replace hR := hR.below hb
  clear b0 b1 b2 hb hX
  have hY := B3.new v3 (.slice A1 s.length c1) (.slice A2 r.length c2) (.slice A3 h.length c3) 26 _ rfl
  have k1 := hR.lt
  go_wp2_with fail
  refine (confirm_any v3.heap.size 0 v2.heap.size A1 c1 s A2 c2 r A3 c3 h _ hY.c3 (hO.alloc _) (by simp; omega) hz3 (dis_lt hO.o1.blk) (dis_lt hO.o2.blk) (dis_lt hO.o3.blk) hlr hlh k m hm).mono ?_
  rintro e v4 ⟨A', c', rfl, hC, hO', _, hb, _, _⟩
  replace hO := hO'
  clear hO'
  have hY := hC.b3
  have hzz := hC.lt
  replace hB := (hB.alloc hB.size (.cells #[.slice A1 s.length c1, .slice A2 r.length c2, .slice A3 h.length c3] 26)).trans (hb.mono (by omega))
  replace hR := (hR.alloc (.cells #[.slice A1 s.length c1, .slice A2 r.length c2, .slice A3 h.length c3] 26)).upto (by omega) hb
  clear hb hC k1
  obtain ⟨y0, y1, y2, _, _, _⟩ := id hY
  have k1 := hY.lt
  obtain ⟨k0, k1, k2, f0, f1, f2⟩ := id hR
  have hR' := ((hR.set0 (.slice A1 s.length c1)).set1 (.slice A2 r.length c2)).set2 (.slice A' (addM h m).length c')
  have hF : Fr (w.heap.size + 1) ((w.heap.size + 1) + 1) v4 (((v4.setCell ⟨(w.heap.size + 1), 0, none⟩ (.slice A1 s.length c1)).setCell ⟨(w.heap.size + 1), 1, none⟩ (.slice A2 r.length c2)).setCell ⟨(w.heap.size + 1), 2, none⟩ (.slice A' (addM h m).length c')) := (((Fr.refl _ _ _).setCell ⟨by simp, by simp⟩ _).setCell ⟨by simp, by simp⟩ _).setCell ⟨by simp, by simp⟩ _
  have hB' := hB.trans (hF.below (B := w.heap.size) (by omega) (by have := hB.size; omega))
  have hO' := (hO.far hF (by omega)).lift (b0 := w.heap.size) (by omega); have hI := hO'.ints hB'.size
  obtain ⟨x0, x1, x2, _, _, _⟩ := id hR'
  go_wp2
  refine bodyPost_ret (by simp [results, Tryz.results14, go_sem, x0, x1, x2]; try rfl) rfl ?_
  exact ⟨A1, c1, A2, c2, A', c', rfl, hI, hB'⟩
end Go.Proofs.YtjmjilkpckbpeaaGreatDoor
namespace Go.Proofs.YtjmjilkpckbpeaaGreatDoor
open Go.RowKit

theorem nod_len : ∀ (l all : List Msg), (∀ i x, l[i]? = some x → x ∈ all ∧ x ∉ l.take i) → l.length ≤ all.length
  | [], _, _ => Nat.zero_le _
  | x :: l, all, h => by
    obtain ⟨a, b, rfl⟩ := List.append_of_mem (h 0 x rfl).1
    have := nod_len l (a ++ b) (fun i y hy => by
      obtain ⟨h1, h2⟩ := h (i + 1) y (by simpa using hy)
      rw [List.take_succ_cons, List.mem_cons, not_or] at h2
      refine ⟨?_, h2.2⟩
      simp only [List.mem_append, List.mem_cons] at h1 ⊢
      rcases h1 with h1 | h1 | h1
      · exact .inl h1
      · exact absurd h1 h2.1
      · exact .inr h1)
    simp only [List.length_append, List.length_cons] at this ⊢
    omega
theorem someB_len {l all : List Msg} (h : someB l all = true) : l.length ≤ all.length := nod_len l all fun i x hx => by
  have := range_all h (List.getElem?_eq_some_iff.1 hx).1
  simp only [someAt, hx, Bool.and_eq_true, Bool.not_eq_true'] at this
  refine ⟨memM_iff.1 this.1, fun hm => ?_⟩
  rw [memM_iff.2 hm] at this
  cases this.2
theorem chan_len {s r h : List Msg} (g : chanB s r h = true) : s.length ≤ 30 ∧ r.length ≤ 30 ∧ h.length ≤ 30 := by
  simp only [chanB, Bool.and_eq_true, decide_eq_true_eq] at g
  have h1 := someB_len g.1.2
  have h2 := someB_len g.2
  omega
theorem delT_len {s r h : List Msg} {i : Int} (_hs : s.length ≤ 1048576) (_hr : r.length ≤ 1048576) (_hh : h.length ≤ 1048576) : (delT s r h i).1.1.length ≤ 1048576 ∧ (delT s r h i).1.2.1.length ≤ 1048576 ∧ (delT s r h i).1.2.2.length ≤ 1048576 := by
  unfold delT
  split
  · rename_i g
    have g : chanB s r h = true := by simp only [okI, Bool.and_eq_true] at g; exact g.1
    obtain ⟨h1, h2, h3⟩ := chan_len g
    split
    · rename_i m _
      have := addM_len r m
      refine ⟨?_, ?_, ?_⟩ <;> dsimp only <;> omega
    · simp [chNo]
  · simp [chNo]
theorem conT_len {s r h : List Msg} {i : Int} (_hs : s.length ≤ 1048576) (_hr : r.length ≤ 1048576) (_hh : h.length ≤ 1048576) : (conT s r h i).1.1.length ≤ 1048576 ∧ (conT s r h i).1.2.1.length ≤ 1048576 ∧ (conT s r h i).1.2.2.length ≤ 1048576 := by
  unfold conT
  split
  · rename_i g
    have g : chanB s r h = true := by simp only [okI, Bool.and_eq_true] at g; exact g.1
    obtain ⟨h1, h2, h3⟩ := chan_len g
    split
    · rename_i m _
      have := addM_len h m
      refine ⟨?_, ?_, ?_⟩ <;> dsimp only <;> omega
    · simp [chNo]
  · simp [chNo]
end Go.Proofs.YtjmjilkpckbpeaaGreatDoor
namespace Go.Proofs.YtjmjilkpckbpeaaGreatDoor
open Go.RowKit

def rdStep (s r h : List Msg) (c : Nat) : Option (List Msg × List Msg) :=
  if 97 ≤ c ∧ c ≤ 122 then some (match s[c - 97]? with | some m => (addM r m, h) | none => (r, h))
  else if 65 ≤ c ∧ c ≤ 90 then some (match r[c - 65]? with | some m => (r, addM h m) | none => (r, h))
  else none
def rdN (s : List Msg) (p : ByteArray) : Nat → Nat → List Msg → List Msg → Option (List Msg × List Msg)
  | 0, _, r, h => some (r, h)
  | n + 1, k, r, h => if hk : k < p.size then (match rdStep s r h p[k].toNat with | some q => rdN s p n (k + 1) q.1 q.2 | none => none) else some (r, h)
def runOk (s r h : List Msg) (p : ByteArray) : Bool := chanB s r h && decide (p.size ≤ 60)
def runT (s r h : List Msg) (p : ByteArray) : (List Msg × List Msg × List Msg) × Bool := if runOk s r h p = true then (match rdN s p p.size 0 r h with | some q => ((s, q.1, q.2), true) | none => chNo) else chNo
theorem runT_no {s r h : List Msg} {p : ByteArray} (hg : runOk s r h p = false) : chNo = runT s r h p := by rw [runT, hg]; rfl
theorem rdN_step {s : List Msg} {p : ByteArray} {k : Nat} {r h : List Msg} (hk : k < p.size) : rdN s p (p.size - k) k r h = (match rdStep s r h p[k].toNat with | some q => rdN s p (p.size - (k + 1)) (k + 1) q.1 q.2 | none => none) := by
  obtain ⟨n, hn⟩ : ∃ n, p.size - k = n + 1 := ⟨p.size - k - 1, by omega⟩
  rw [hn, rdN, dif_pos hk, show p.size - (k + 1) = n by omega]
theorem rdStep_len {s r h : List Msg} {c : Nat} {q : List Msg × List Msg} (e : rdStep s r h c = some q) : q.1.length ≤ r.length + 1 ∧ q.2.length ≤ h.length + 1 := by
  unfold rdStep at e
  split at e
  · injection e with e
    subst e
    split
    · rename_i m _; exact ⟨addM_len r m, Nat.le_succ _⟩
    · exact ⟨Nat.le_succ _, Nat.le_succ _⟩
  · split at e
    · injection e with e
      subst e
      split
      · rename_i m _; exact ⟨Nat.le_succ _, addM_len h m⟩
      · exact ⟨Nat.le_succ _, Nat.le_succ _⟩
    · cases e
theorem rdN_len {s : List Msg} {p : ByteArray} : ∀ {n k : Nat} {r h : List Msg} {q : List Msg × List Msg}, rdN s p n k r h = some q → q.1.length ≤ r.length + n ∧ q.2.length ≤ h.length + n
  | 0, _, r, h, q, e => by
    rw [rdN] at e
    injection e with e
    subst e
    exact ⟨Nat.le_refl _, Nat.le_refl _⟩
  | n + 1, k, r, h, q, e => by
    rw [rdN] at e
    split at e
    · split at e
      · rename_i q' hq
        have h1 := rdStep_len hq
        have h2 := rdN_len e
        omega
      · cases e
    · injection e with e
      subst e
      exact ⟨Nat.le_add_right _ _, Nat.le_add_right _ _⟩
theorem runT_len {s r h : List Msg} {p : ByteArray} (_hs : s.length ≤ 1048576) (_hr : r.length ≤ 1048576) (_hh : h.length ≤ 1048576) : (runT s r h p).1.1.length ≤ 1048576 ∧ (runT s r h p).1.2.1.length ≤ 1048576 ∧ (runT s r h p).1.2.2.length ≤ 1048576 := by
  unfold runT
  split
  · rename_i g
    simp only [runOk, Bool.and_eq_true, decide_eq_true_eq] at g
    obtain ⟨h1, h2, h3⟩ := chan_len g.1
    split
    · rename_i q hq
      have := rdN_len hq
      dsimp only
      omega
    · simp [chNo]
  · simp [chNo]
theorem rd_a {s r h : List Msg} {c j : Nat} {m : Msg} (h1 : 97 ≤ c ∧ c ≤ 122) (hj : c = 97 + j) (hm : s[j]? = some m) : rdStep s r h c = some (addM r m, h) := by rw [rdStep, if_pos h1, show c - 97 = j by omega, hm]
theorem rd_a0 {s r h : List Msg} {c j : Nat} (h1 : 97 ≤ c ∧ c ≤ 122) (hj : c = 97 + j) (hm : s.length ≤ j) : rdStep s r h c = some (r, h) := by rw [rdStep, if_pos h1, show c - 97 = j by omega, List.getElem?_eq_none hm]
theorem rd_A {s r h : List Msg} {c j : Nat} {m : Msg} (h1 : 65 ≤ c ∧ c ≤ 90) (hj : c = 65 + j) (hm : r[j]? = some m) : rdStep s r h c = some (r, addM h m) := by rw [rdStep, if_neg (by omega), if_pos h1, show c - 65 = j by omega, hm]
theorem rd_A0 {s r h : List Msg} {c j : Nat} (h1 : 65 ≤ c ∧ c ≤ 90) (hj : c = 65 + j) (hm : r.length ≤ j) : rdStep s r h c = some (r, h) := by rw [rdStep, if_neg (by omega), if_pos h1, show c - 65 = j by omega, List.getElem?_eq_none hm]
theorem rd_no {s r h : List Msg} {c : Nat} (h1 : ¬ (97 ≤ c ∧ c ≤ 122)) (h2 : ¬ (65 ≤ c ∧ c ≤ 90)) : rdStep s r h c = none := by rw [rdStep, if_neg h1, if_neg h2]
theorem conv_bytes (W : World) (p : ByteArray) : ∃ cap W', (convert 9 22 (.string p)).run Tryz.prog W = .ok (.slice (some ⟨W.heap.size, 0, none⟩) p.size cap) W' ∧ (∀ k (h : k < p.size), W'.cell? ⟨W.heap.size, k, none⟩ = some (.int .u8 (p[k].toNat : Int))) ∧ Below W.heap.size W W' ∧ W.heap.size < W'.heap.size := by
  refine ⟨_, _, run_bytes_of_string W 9 22 5 p Tryz.underlying9 Tryz.underlying22 Tryz.underlying5, fun k h => ?_, ?_, ?_⟩
  · have := bytesRow_at p (grownCap W p.size 0 5) k h
    exact (World.cell?_alloc_mark W.drew _ _ _ k).trans this
  · exact ((Below.refl _ _).drew).alloc (Nat.le_refl _) _
  · show W.drew.heap.size < _; simp
end Go.Proofs.YtjmjilkpckbpeaaGreatDoor
namespace Go.Proofs.YtjmjilkpckbpeaaGreatDoor
open Go.RowKit

def ordT (s r h : List Msg) (f : ByteArray) : List ByteArray × Bool := if (chanB s r h && nameB f) = true then (ordF r f, true) else ([], false)
theorem ordT_len {s r h : List Msg} {f : ByteArray} : (ordT s r h f).1.length ≤ 1048576 := by
  unfold ordT
  split
  · have := ordF_len r f; dsimp only; omega
  · simp
theorem ordT_no {s r h : List Msg} {f : ByteArray} (hg : (chanB s r h && nameB f) = false) : (([], false) : List ByteArray × Bool) = ordT s r h f := by rw [ordT, hg]; rfl
theorem ordT_yes {s r h : List Msg} {f : ByteArray} (hg : (chanB s r h && nameB f) = true) : (ordF r f, true) = ordT s r h f := by rw [ordT, if_pos hg]
theorem sl_oneS (w : World) (x : ByteArray) : Strs (w.alloc (.cells #[.string x] 9)) 0 (w.alloc (.cells #[.string x] 9)).heap.size (some ⟨w.heap.size, 0, none⟩) [x] := fun _ => by
  refine ⟨w.heap.size, 0, rfl, Nat.zero_le _, by simp, Nat.le_refl _, fun i y hy j v hv => ?_⟩
  cases i with
  | zero =>
    obtain rfl : x = y := by simpa using hy
    have := new_cells (E := Strs.cells) w 9 x _ rfl j v hv
    rw [show 0 + 0 * 1 + j = j by omega]
    exact ⟨this, World.frozen?_alloc_at _ _ _ _ rfl⟩
  | succ i => simp at hy
def lenV : Value → Nat
  | .slice _ n _ => n
  | _ => 0
theorem received1_any (x : Msg) (p1 p2 : Nat) (f : ByteArray) (n : Int) (w : World) (q1 : w.cell? ⟨p1, 0, none⟩ = some (.string f)) (q2 : w.cell? ⟨p2, 0, none⟩ = some (.int .i64 n)) :
    Calls Tryz.prog 134 #[.agg #[.string x.f, .int .i64 x.n, .string x.b], .pointer (some ⟨p1, 0, none⟩), .pointer (some ⟨p2, 0, none⟩)] w fun e w' => e = .returned (.bool (keyP f n x)) ∧ Below w.heap.size w w' := by
  have k1 : p1 < w.heap.size := World.block_lt_of_cell? _ _ q1
  have k2 : p2 < w.heap.size := World.block_lt_of_cell? _ _ q2
  by_cases hs : x.f.toList = f.toList
  · have HF : Hid (keyP f n x = decide (x.n = n)) := Lib.hid (by simp [keyP, hs])
    go_enter Tryz.func134, Tryz.ntmps134
    go_wp2
    go_ret
    exact ⟨by rw [HF.out]; first | rfl | (congr 2; simp), by go_grown⟩
  · have HF : Hid (keyP f n x = false) := Lib.hid (by simp [keyP, hs])
    have hs' : (x.f.toList == f.toList) = false := by simpa using hs
    clear hs
    go_enter Tryz.func134, Tryz.ntmps134
    go_wp2
    go_ret
    exact ⟨by rw [HF.out]; rfl, by go_grown⟩
theorem received1_enters : Enters 134 := enters Tryz.func134 (by kernel_rfl) (by kernel_rfl)
set_option maxHeartbeats 2000000 in
theorem received_any (pb po : Nat) (vs vh : Value) (Ar : Option Addr) (cr : Nat) (r : List Msg) (f : ByteArray) (n : Int) (w : World) (hX : C3 pb po vs (.slice Ar r.length cr) vh w) (hlr : r.length ≤ 1048576) (hSr : Msgs w 0 w.heap.size Ar r) :
    Calls Tryz.prog 72 #[.pointer (some ⟨pb, po, none⟩), .string f, .int .i64 n] w (RV w (.int .i64 (idxG (keyP f n) r 0))) := by
  have hX1 := (hX.alloc (.cells #[.string f] 9)).alloc (.cells #[.int .i64 n] 3)
  have hpb := hX.lt
  have q1 : ((w.alloc (.cells #[.string f] 9)).alloc (.cells #[.int .i64 n] 3)).cell? ⟨w.heap.size, 0, none⟩ = some (.string f) := lay _ (by simp)
  have q2 : ((w.alloc (.cells #[.string f] 9)).alloc (.cells #[.int .i64 n] 3)).cell? ⟨w.heap.size + 1, 0, none⟩ = some (.int .i64 n) := by rw [World.cell?_alloc_at _ _ _ _ (by simp)]; rfl
  have hS1 := (hSr.alloc (.cells #[.string f] 9)).alloc (.cells #[.int .i64 n] 3)
  have hB0 : Below w.heap.size w ((w.alloc (.cells #[.string f] 9)).alloc (.cells #[.int .i64 n] 3)) := by go_grown
  obtain ⟨b0, b1, b2, _, _, _⟩ := id hX1
  go_enter Tryz.func72, Tryz.ntmps72
  go_wp2_with fail
  generalize (w.alloc (.cells #[.string f] 9)).alloc (.cells #[.int .i64 n] 3) = W at q1 q2 hS1 hB0 ⊢
  have hP : Msg.Pred 134 #[.pointer (some ⟨w.heap.size, 0, none⟩), .pointer (some ⟨w.heap.size + 1, 0, none⟩)] (keyP f n) 0 0 r W := fun V x _ hF =>
    received1_any x _ _ f n V ((World.cell?_of_block (hF.block _ (World.block_lt_of_cell? _ _ q1) (by omega))).trans q1) ((World.cell?_of_block (hF.block _ (World.block_lt_of_cell? _ _ q2) (by omega))).trans q2)
  refine (Msg.IndexFunc_any _ _ (keyP f n) Ar cr _ _ 0 0 r W received1_enters hlr hS1 hP).mono ?_
  rintro e w1 ⟨rfl, hb⟩
  clear hP q1 q2
  go_wp2
  go_ret
  exact RV.mk rfl (Below.on' hB0 hb)
set_option maxHeartbeats 4000000 in
theorem inOrder_any (pb po : Nat) (vs vh : Value) (Ar : Option Addr) (cr : Nat) (r : List Msg) (f : ByteArray) (w : World) (hX : C3 pb po vs (.slice Ar r.length cr) vh w) (hlr : r.length ≤ 1048576) (hSr : Msgs w 0 w.heap.size Ar r) (hn : ∀ x ∈ r, x.n ≤ 999) :
    Calls Tryz.prog 121 #[.pointer (some ⟨pb, po, none⟩), .string f] w (RS1 Strs.cells 1 w (ordF r f)) := by
  obtain ⟨i0, hi0, hz0, hz1, hz2⟩ := info_parts Strs.info
  have hpb := hX.lt
  go_enter Tryz.func121, Tryz.ntmps121
  go_wp2_with fail
  refine (received_any pb po vs vh Ar cr r f 1 _ hX hlr hSr).mono ?_
  rintro e w0 ⟨rfl, hb⟩
  have hX0 := hX.below hb
  obtain ⟨v0, HV⟩ : ∃ v0, Hid (v0 = idxG (keyP f 1) r 0) := ⟨_, Lib.hid rfl⟩
  rw [← HV.out]
  have hB0 : Below w.heap.size w w0 := hb
  clear hb
  go_wp2_with fail
  go_loopw [5, 6] (fun o i wr => ∃ (L : List ByteArray) (A : Option Addr) (c : Nat) (v : Int), o = .slice A L.length c ∧ i = .int .i64 v ∧ L.length ≤ 999 ∧ Own Strs.cells 1 9 wr w.heap.size A c L ∧ Hid (ordF r f = L ++ ordL r f (1000 - L.length) (L.length + 1)) ∧ Hid (v = idxG (keyP f ((L.length + 1 : Nat) : Int)) r 0) ∧ C3 pb po vs (.slice Ar r.length cr) vh wr ∧ Below w.heap.size w wr) (fun o _ _ => 1000 - lenV o)
  case atStart => exact ⟨[], none, 0, v0, rfl, rfl, Nat.zero_le _, Own.nil_, Lib.hid rfl, Lib.hid HV.out, hX0, hB0⟩
  case round =>
    clear hX0 HV hB0
    obtain ⟨L, A, c, v, rfl, rfl, hL, hO, HX, HV, hX, hB⟩ := hrel
    have hz := hB.size
    obtain ⟨b0, b1, b2, _, _, _⟩ := id hX
    rcases find_idx (keyP f ((L.length + 1 : Nat) : Int)) r 0 with ⟨e1, hf⟩ | ⟨j, x, hj, e1, hf, _⟩
    · have HE := Lib.hid (ordF_end HX.out hf)
      obtain rfl : v = -1 := HV.out.trans e1
      clear HX HV e1 hf
      go_wp2
      go_ret
      exact RS1.own HE.out rfl Strs.len hO hB
    · obtain ⟨hL9, hnx⟩ := ordF_next hn rfl HX.out hf
      obtain rfl : v = (j : Int) := by rw [HV.out, e1, Nat.zero_add]
      have HN := Lib.hid hnx
      have hjl : j < r.length := (List.getElem?_eq_some_iff.1 hj).1
      obtain ⟨b, off, rfl, _, kb, _, hg⟩ := (hSr.below hB).at_ hj
      have d2 : wr.cell? ⟨b, off + j * 3 + 2, none⟩ = some (.string x.b) := (hg 2 _ rfl).1
      clear HX HV e1 hf hnx hg hj
      have hk0 : b < wr.heap.size := by omega
      go_wp2_with (at_builtin; refine wpList_append_one _ rfl (.tmp 18) (.tmp 27) _ rfl i0 _ _ Tryz.underlying60 hi0 hz0 hz1 hz2 rfl (by omega) Strs.len Strs.one x.b _ (hO.alloc _) rfl rfl (new_cells _ _ _ _ rfl) (by unfold maxLen; omega) (by omega) (by first | omega | (simp; omega)) ?_; intro A' c' w1 L' hL' hO1 hB1; have hX1 := (hX.alloc (.cells #[.string x.b] 9)).upto hpb hB1; have hBw := (hB.alloc hB.size (.cells #[.string x.b] 9)).trans hB1)
      have hl : L.length + 1 = L'.length := by rw [hL'.out]; simp
      have hle : L'.length ≤ 999 := by omega
      have HX' : Hid (ordF r f = L' ++ ordL r f (1000 - L'.length) (L'.length + 1)) := Lib.hid (by have := HN.out; rw [← hL'.out, hl] at this; exact this)
      rw [show wrap64 ((L'.length : Int) + 1) = ((L'.length + 1 : Nat) : Int) by unfold wrap64; omega]
      refine (received_any pb po vs vh _ cr r f _ _ hX1 hlr (hSr.below hBw).all).mono ?_
      rintro e w2 ⟨rfl, hb⟩
      obtain ⟨v2, HV2⟩ : ∃ v2, Hid (v2 = idxG (keyP f ((L'.length + 1 : Nat) : Int)) r 0) := ⟨_, Lib.hid rfl⟩
      rw [← HV2.out]
      have hX2 := hX1.below hb
      have hO2 := hO1.below hb
      have hB2 := Below.on' hBw hb
      replace hl := Lib.hid hl
      clear hX hO hB hX1 hO1 hB1 hBw hb HN hL' b0 b1 b2 d2
      go_wp2
      go_roundw
      case rel => exact ⟨L', A', c', v2, rfl, rfl, hle, hO2, HX', HV2, hX2, hB2⟩
      case measure => have := hl.out; simp [lenV]; omega
set_option maxHeartbeats 2000000 in
theorem raNext_any (As : Option Addr) (cs : Nat) (s : List Msg) (Ar : Option Addr) (cr : Nat) (r : List Msg) (Ah : Option Addr) (ch : Nat) (h : List Msg) (f : ByteArray) (w : World) (hlr : r.length ≤ 1048576) (hSr : Msgs w 0 w.heap.size Ar r) (hn : ∀ x ∈ r, x.n ≤ 999) :
    Calls Tryz.prog 153 #[.agg #[.slice As s.length cs, .slice Ar r.length cr, .slice Ah h.length ch], .string f] w (RV w (.int .i64 ((ordF r f).length + 1))) := by
  have hX := B3.new w (.slice As s.length cs) (.slice Ar r.length cr) (.slice Ah h.length ch) 26 _ rfl
  have hO := ordF_len r f
  obtain ⟨M, hM⟩ : ∃ M, Hid (M = (ordF r f).length) := ⟨_, Lib.hid rfl⟩
  rw [← hM.out] at hO ⊢
  have hB : Below w.heap.size w (w.alloc (.cells #[.slice As s.length cs, .slice Ar r.length cr, .slice Ah h.length ch] 26)) := by go_grown
  go_enter Tryz.func153, Tryz.ntmps153
  go_wp2_with fail
  go_loopw [5] (fun i wr => ∃ k : Nat, 1 ≤ k ∧ k ≤ M + 1 ∧ i = .int .i64 k ∧ B3 w.heap.size (.slice As s.length cs) (.slice Ar r.length cr) (.slice Ah h.length ch) wr ∧ Below w.heap.size w wr) (fun i _ => M + 1 - (intOf i).toNat)
  case atStart => exact ⟨1, Nat.le_refl _, by omega, rfl, hX, hB⟩
  case round =>
    clear hX hB
    obtain ⟨k, hk1, hk2, rfl, hX, hB⟩ := hrel
    obtain ⟨b0, b1, b2, _, _, _⟩ := id hX
    have HF := ordF_find (f := f) hn hk1 (by rw [← hM.out]; exact hk2)
    rw [← hM.out] at HF
    go_wp2_with fail
    refine (raFind_any Ar cr r f k _ hlr (hSr.below hB).all).mono ?_
    rintro e w1 ⟨rfl, hb⟩
    replace hB := Below.on' hB hb
    replace hX := hX.below hb
    clear b0 b1 b2 hb
    rcases find_idx (keyP f (k : Int)) r 0 with ⟨e1, hf⟩ | ⟨j, x, hj, e1, hf, _⟩
    · have hkM : (k : Int) = M + 1 := by
        rw [hf] at HF
        have := of_decide_eq_false HF.symm
        omega
      rw [e1]
      clear hf HF e1
      go_wp2
      go_ret
      exact RV.mk rfl hB
    · have hkM : k ≤ M := by
        rw [hf] at HF
        exact of_decide_eq_true HF.symm
      rw [e1]
      clear hf HF e1 hj
      go_wp2
      go_roundw
      case rel => exact ⟨k + 1, by omega, by omega, by go_num, hX, hB⟩
      case measure => simp [intOf]; omega
set_option maxRecDepth 100000 in
set_option maxHeartbeats 8000000 in
theorem InOrder_spec (As : Option Addr) (cs : Nat) (s : List Msg) (Ar : Option Addr) (cr : Nat) (r : List Msg) (Ah : Option Addr) (ch : Nat) (h : List Msg) (f : ByteArray) (w : World) (hls : s.length ≤ 1048576) (hms : ∀ y ∈ s, y.f.size ≤ 1048576 ∧ y.b.size ≤ 1048576) (hSs : Msgs w 0 w.heap.size As s) (hcs : s.length ≤ cs) (hlr : r.length ≤ 1048576) (hmr : ∀ y ∈ r, y.f.size ≤ 1048576 ∧ y.b.size ≤ 1048576) (hSr : Msgs w 0 w.heap.size Ar r) (hcr : r.length ≤ cr) (hlh : h.length ≤ 1048576) (hmh : ∀ y ∈ h, y.f.size ≤ 1048576 ∧ y.b.size ≤ 1048576) (hSh : Msgs w 0 w.heap.size Ah h) (hch : h.length ≤ ch) (hsf : f.size ≤ 1048576) :
    Calls Tryz.prog 123 #[.agg #[.slice As s.length cs, .slice Ar r.length cr, .slice Ah h.length ch], .string f] w (RS2 Strs.cells 1 w (ordT s r h f).1 (ordT s r h f).2) := by
  generalize hT : ordT s r h f = t
  replace hT := Lib.hid hT
  have hX := B3.new w (.slice As s.length cs) (.slice Ar r.length cr) (.slice Ah h.length ch) 26 _ rfl
  obtain ⟨b0, b1, b2, _, _, _⟩ := id hX
  go_enter Tryz.func123, Tryz.ntmps123
  go_wp2_with fail
  refine (raGood_any As cs s Ar cr r Ah ch h _ hls hms (hSs.alloc _).all hcs hlr hmr (hSr.alloc _).all hcr hlh hmh (hSh.alloc _).all hch).mono ?_
  rintro e v1 ⟨rfl, hb⟩
  have hB : Below w.heap.size w v1 := Below.on' (by go_grown) hb
  replace hX := hX.below hb
  clear b0 b1 b2 hb
  obtain ⟨b0, b1, b2, _, _, _⟩ := id hX
  by_cases g : chanB s r h = true
  rotate_left
  · have g : chanB s r h = false := by simpa using g
    obtain rfl : ([], false) = t := (ordT_no (by rw [g]; rfl)).trans hT.out
    rw [g]
    go_wp2
    go_ret2
    exact RS2.nil_ rfl rfl hB
  rw [g]
  go_wp2_with fail
  refine (apName_any f _ hsf).mono ?_
  rintro e v2 ⟨rfl, hb⟩
  replace hB := Below.on' hB hb
  replace hX := hX.below hb
  clear b0 b1 b2 hb
  obtain ⟨b0, b1, b2, _, _, _⟩ := id hX
  by_cases g2 : nameB f = true
  rotate_left
  · have g2 : nameB f = false := by simpa using g2
    obtain rfl : ([], false) = t := (ordT_no (by rw [g, g2]; rfl)).trans hT.out
    rw [g2]
    go_wp2
    go_ret2
    exact RS2.nil_ rfl rfl hB
  rw [g2]
  obtain rfl : (ordF r f, true) = t := (ordT_yes (by rw [g, g2]; rfl)).trans hT.out
  have G := ChanG.of g
  have hn : ∀ x ∈ r, x.n ≤ 999 := fun x hx => (G.num x (G.rs x hx)).2
  clear hT g g2
  obtain ⟨i0, hi0, hz0, hz1, hz2⟩ := info_parts Strs.info
  have hO9 := ordF_len r f
  obtain ⟨M, hM⟩ : ∃ M, Hid (M = (ordF r f).length) := ⟨_, Lib.hid rfl⟩
  rw [← hM.out] at hO9
  have hzw := hX.lt
  go_wp2_with fail
  go_loopw [6, 7] (fun o i wr => ∃ (k : Nat) (Q : List ByteArray) (A : Option Addr) (c : Nat), k ≤ M ∧ i = .int .i64 (k + 1) ∧ o = .slice A Q.length c ∧ Hid (Q = (ordF r f).take k) ∧ Q.length ≤ 1000 ∧ Own Strs.cells 1 9 wr (w.heap.size + 1) A c Q ∧ B3 w.heap.size (.slice As s.length cs) (.slice Ar r.length cr) (.slice Ah h.length ch) wr ∧ Below w.heap.size w wr) (fun _ i _ => M + 1 - (intOf i).toNat)
  case atStart => exact ⟨0, [], none, 0, Nat.zero_le _, rfl, rfl, Lib.hid rfl, Nat.zero_le _, Own.nil_, hX, hB⟩
  case round =>
    clear hX hB b0 b1 b2
    obtain ⟨k, Q, A, c, hk, rfl, rfl, HQ, hQ9, hO, hX, hB⟩ := hrel
    obtain ⟨b0, b1, b2, _, _, _⟩ := id hX
    have hw : IntKind.i64.wrap ((k : Int) + 1 + 1) = (k : Int) + 1 + 1 := IntWalk.i64_in _ (by omega)
    go_wp2_with fail
    refine (raNext_any As cs s Ar cr r Ah ch h f _ hlr (hSr.below hB).all hn).mono ?_
    rw [← hM.out]
    rintro e w1 ⟨rfl, hb⟩
    replace hB := Below.on' hB hb
    replace hX := hX.below hb
    replace hO := hO.below hb
    clear b0 b1 b2 hb
    obtain ⟨b0, b1, b2, _, _, _⟩ := id hX
    by_cases hlt : k < M
    · have hlt' : (k : Int) + 1 < M + 1 := by omega
      obtain ⟨m, hf, hg⟩ := ordL_at (r := r) (f := f) (k := 1000) (n := 1) (i := k) (by have := hM.out; unfold ordF at this; omega)
      rcases find_idx (keyP f ((1 + k : Nat) : Int)) r 0 with ⟨_, e2⟩ | ⟨j, x, hj, e1, e2, _⟩
      · rw [e2] at hf; cases hf
      obtain rfl : m = x := by rw [e2] at hf; exact (Option.some.inj hf).symm
      have ek : ((1 + k : Nat) : Int) = (k : Int) + 1 := by omega
      rw [ek] at e1
      have HQ' : Hid (Q ++ [m.b] = (ordF r f).take (k + 1)) := Lib.hid (by rw [HQ.out]; exact (take_snoc hg).symm)
      have hjl : j < r.length := (List.getElem?_eq_some_iff.1 hj).1
      have hcall : ∀ W, Below w1.heap.size w1 W → Calls Tryz.prog 79 #[.slice Ar r.length cr, .string f, .int .i64 ((k : Int) + 1)] W (RV W (.int .i64 (j : Int))) := fun W hW => by
        have := raFind_any Ar cr r f ((k : Int) + 1) W hlr (hSr.below (Below.on' hB hW)).all
        rw [e1, Nat.zero_add] at this
        exact this
      obtain ⟨b, off, rfl, _, kb, _, hh⟩ := (hSr.below hB).at_ hj
      have d2 : w1.cell? ⟨b, off + j * 3 + 2, none⟩ = some (.string m.b) := (hh 2 _ rfl).1
      have hzw1 := hX.lt
      clear hf hg e1 e2 ek hh hj HQ
      go_upto_region 7 with fail
      refine wp_region_held_drew (S := fun w' => w'.cell? ⟨w.heap.size, 1, none⟩ = some (.slice (some ⟨b, off, none⟩) r.length cr) ∧ w'.cell? ⟨b, off + j * 3 + 2, none⟩ = some (.string m.b)) (by kernel_rfl) ⟨b1, d2⟩ (fun hHeld => ?_)
      have hbd : Below w1.heap.size w1 w1.drew := (Below.refl _ _).drew
      replace hO := hO.drew
      replace hX := hX.drew
      replace hB := hB.drew
      replace hzw1 : w.heap.size < w1.drew.heap.size := hzw1
      have kb1 : b < w1.drew.heap.size := by have := hB.size; omega
      generalize w1.drew = W at hHeld hbd hO hX hB hzw1 kb1 ⊢
      change wpAnyH _ _ _ _ _ 14 #[false, false, false, false, false, false, false, false, false, false, false, false, false, false] _ _
      refine wpAnyH_takeL (i := 0) (v := .slice A Q.length c) rfl (by kernel_rfl) (by kernel_rfl) (by kernel_rfl) (fun _ _ _ h => h) (Or.inl ⟨by rfl, fun w' hSw => by obtain ⟨z0, z1⟩ := hSw; go_simp⟩) (by assumption) ?_
      simp only [Act.put, List.setIfInBounds_toArray, List.set_cons_zero, List.set_cons_succ]
      refine wpAnyH_takeL (i := 1) (v := .pointer (some ⟨w.heap.size, 1, none⟩)) rfl (by kernel_rfl) (by kernel_rfl) (by kernel_rfl) (fun _ _ _ h => h) (Or.inl ⟨by rfl, fun w' hSw => by obtain ⟨z0, z1⟩ := hSw; go_simp⟩) (by assumption) ?_
      simp only [Act.put, List.setIfInBounds_toArray, List.set_cons_zero, List.set_cons_succ]
      refine wpAnyH_takeL (i := 2) (v := .slice (some ⟨b, off, none⟩) r.length cr) rfl (by kernel_rfl) (by kernel_rfl) (by kernel_rfl) (fun _ _ _ h => h) (Or.inl ⟨by rfl, fun w' hSw => by obtain ⟨z0, z1⟩ := hSw; go_simp⟩) (by assumption) ?_
      simp only [Act.put, List.setIfInBounds_toArray, List.set_cons_zero, List.set_cons_succ]
      refine wpAnyH_takeL (i := 3) (v := .pointer (some ⟨w.heap.size, 1, none⟩)) rfl (by kernel_rfl) (by kernel_rfl) (by kernel_rfl) (fun _ _ _ h => h) (Or.inl ⟨by rfl, fun w' hSw => by obtain ⟨z0, z1⟩ := hSw; go_simp⟩) (by assumption) ?_
      simp only [Act.put, List.setIfInBounds_toArray, List.set_cons_zero, List.set_cons_succ]
      refine wpAnyH_takeL (i := 4) (v := .slice (some ⟨b, off, none⟩) r.length cr) rfl (by kernel_rfl) (by kernel_rfl) (by kernel_rfl) (fun _ _ _ h => h) (Or.inl ⟨by rfl, fun w' hSw => by obtain ⟨z0, z1⟩ := hSw; go_simp⟩) (by assumption) ?_
      simp only [Act.put, List.setIfInBounds_toArray, List.set_cons_zero, List.set_cons_succ]
      refine wpAnyH_takeL (i := 5) (v := .string f) rfl (by kernel_rfl) (by kernel_rfl) (by kernel_rfl) (fun _ _ _ h => h) (Or.inl ⟨by rfl, fun w' hSw => by obtain ⟨z0, z1⟩ := hSw; go_simp⟩) (by assumption) ?_
      simp only [Act.put, List.setIfInBounds_toArray, List.set_cons_zero, List.set_cons_succ]
      refine wpAnyH_takeL (i := 6) (v := .int .i64 ((k : Int) + 1)) rfl (by kernel_rfl) (by kernel_rfl) (by kernel_rfl) (fun _ _ _ h => h) (Or.inl ⟨by rfl, fun w' hSw => by obtain ⟨z0, z1⟩ := hSw; go_simp⟩) (by assumption) ?_
      simp only [Act.put, List.setIfInBounds_toArray, List.set_cons_zero, List.set_cons_succ]
      refine wpAnyH_ready (rs := [7]) (by kernel_rfl) (by simp) ?_
      refine AllReadyH.consL rfl (fun K hK => ?_) AllReadyH.nil
      go_simp
      go_at_call 79
      refine (hcall _ hbd).mono ?_
      rintro e V ⟨rfl, hb⟩
      go_simp
      refine hK.out _ _ ⟨keep hb hHeld.1, keep hb hHeld.2⟩ (fun hHeld2 => ?_)
      clear hK K
      simp only [List.setIfInBounds_toArray, List.set_cons_zero, List.set_cons_succ]
      replace hO := hO.below hb
      replace hX := hX.below hb
      replace hB := Below.on' hB hb
      have hzV : w.heap.size < V.heap.size := hX.lt
      have kbV : b < V.heap.size := by have := hb.size; omega
      refine wpAnyH_takeL (i := 8) (v := .pointer (some ⟨b, off + j * 3, none⟩)) rfl (by kernel_rfl) (by kernel_rfl) (by kernel_rfl) (fun _ _ _ h => h) (Or.inl ⟨by rfl, fun w' hSw => by obtain ⟨z0, z1⟩ := hSw; go_simp⟩) (by assumption) ?_
      simp only [Act.put, List.setIfInBounds_toArray, List.set_cons_zero, List.set_cons_succ]
      refine wpAnyH_takeL (i := 9) (v := .pointer (some ⟨b, off + j * 3 + 2, none⟩)) rfl (by kernel_rfl) (by kernel_rfl) (by kernel_rfl) (fun _ _ _ h => h) (Or.inl ⟨by rfl, fun w' hSw => by obtain ⟨z0, z1⟩ := hSw; go_simp⟩) (by assumption) ?_
      simp only [Act.put, List.setIfInBounds_toArray, List.set_cons_zero, List.set_cons_succ]
      refine wpAnyH_takeL (i := 10) (v := .string m.b) rfl (by kernel_rfl) (by kernel_rfl) (by kernel_rfl) (fun _ _ _ h => h) (Or.inl ⟨by rfl, fun w' hSw => by obtain ⟨z0, z1⟩ := hSw; go_simp⟩) (by assumption) ?_
      simp only [Act.put, List.setIfInBounds_toArray, List.set_cons_zero, List.set_cons_succ]
      refine wpAnyH_ready (rs := [11]) (by kernel_rfl) (by simp) ?_
      refine AllReadyH.consL rfl (fun K hK => ?_) AllReadyH.nil
      go_simp
      refine hK.out _ _ ⟨lay _ hHeld2.1, lay _ hHeld2.2⟩ (fun hHeld3 => ?_)
      clear hK K
      simp only [List.setIfInBounds_toArray, List.set_cons_zero, List.set_cons_succ]
      refine wpAnyH_ready (rs := [12]) (by kernel_rfl) (by simp) ?_
      refine AllReadyH.consL rfl (fun K hK => ?_) AllReadyH.nil
      rw [if_pos (by rfl)]
      have hbs : w.heap.size + 1 ≤ (V.alloc (.cells #[.string m.b] 9)).heap.size := by simp; omega
      refine wp_append_all (V.alloc (.cells #[.string m.b] 9)) (.tmp 23) (.tmp 34) _ rfl i0 _ _ Tryz.underlying60 hi0 hz0 hz1 hz2 rfl (by omega) Strs.len Strs.one (hO.alloc _) (sl_oneS V m.b) rfl rfl (by simp only [List.length_cons, List.length_nil]; unfold maxLen; omega) (by simp only [List.length_cons, List.length_nil]; omega) hbs ?_
      intro A' c' U hO2 hb2 _ _
      obtain ⟨Q', hQ'⟩ : ∃ Q', Hid (Q' = Q ++ [m.b]) := ⟨_, Lib.hid rfl⟩
      have hl : Q'.length ≤ 1000 := by
        rw [hQ'.out, HQ'.out, List.length_take]
        have := hM.out
        omega
      rw [← hQ'.out] at hO2 ⊢
      have hX2 := (hX.alloc (.cells #[.string m.b] 9)).upto (Nat.lt_succ_self _) hb2
      have hB2 := (hB.alloc hB.size (.cells #[.string m.b] 9)).trans (hb2.mono (Nat.le_succ _))
      refine hK.out _ _ ⟨(hb2.cell (p := ⟨w.heap.size, 1, none⟩) (Nat.lt_succ_self _)).trans hHeld3.1, (hb2.cell (p := ⟨b, off + j * 3 + 2, none⟩) (by simp only; omega)).trans hHeld3.2⟩ (fun hHeld4 => ?_)
      clear hK K
      simp only [Act.put, List.setIfInBounds_toArray, List.set_cons_zero, List.set_cons_succ]
      refine wpAnyH_takeL (i := 13) (v := .slice A' Q'.length c') rfl (by kernel_rfl) (by kernel_rfl) (by kernel_rfl) (fun _ _ _ h => h) (Or.inl ⟨by rfl, fun w' hSw => by obtain ⟨z0, z1⟩ := hSw; go_simp⟩) (by assumption) ?_
      simp only [Act.put, List.setIfInBounds_toArray, List.set_cons_zero, List.set_cons_succ]
      refine wpAnyH_done (by kernel_rfl) ?_ _
      have HN : Hid (Q' = (ordF r f).take (k + 1)) := Lib.hid (hQ'.out.trans HQ'.out)
      clear hHeld hHeld2 hHeld3 hHeld4 hX hO hB hQ' HQ' b0 b1 b2 d2
      go_wp2
      go_roundw
      case rel => exact ⟨k + 1, Q', A', c', by omega, by go_num, rfl, HN, hl, hO2, hX2, hB2⟩
      case measure => simp [intOf]; omega
    · obtain rfl : k = M := by omega
      have HE : Hid (ordF r f = Q) := Lib.hid (by rw [HQ.out, hM.out, List.take_length])
      clear hX b0 b1 b2
      go_wp2
      go_ret2
      exact RS2.own HE.out rfl rfl Strs.len (hO.lift (Nat.le_succ _)) hB
end Go.Proofs.YtjmjilkpckbpeaaGreatDoor
namespace Go.Proofs.YtjmjilkpckbpeaaGreatDoor
open Go.RowKit

def sndOk (s r h : List Msg) (f b : ByteArray) : Bool := chanB s r h && nameB f && bodyB b && !decide (s.length = 30)
def sndT (s r h : List Msg) (f b : ByteArray) : (List Msg × List Msg × List Msg) × Bool := if sndOk s r h f b = true then ((s ++ [⟨f, (cntM s f : Int) + 1, b⟩], r, h), true) else chNo
theorem sndT_no {s r h : List Msg} {f b : ByteArray} (hg : sndOk s r h f b = false) : chNo = sndT s r h f b := by rw [sndT, hg]; rfl
theorem sndT_yes {s r h : List Msg} {f b : ByteArray} (hg : sndOk s r h f b = true) : ((s ++ [⟨f, (cntM s f : Int) + 1, b⟩], r, h), true) = sndT s r h f b := by rw [sndT, if_pos hg]
theorem sndT_len {s r h : List Msg} {f b : ByteArray} (_hs : s.length ≤ 1048576) (_hr : r.length ≤ 1048576) (_hh : h.length ≤ 1048576) : (sndT s r h f b).1.1.length ≤ 1048576 ∧ (sndT s r h f b).1.2.1.length ≤ 1048576 ∧ (sndT s r h f b).1.2.2.length ≤ 1048576 := by
  unfold sndT
  split
  · rename_i g
    have g : chanB s r h = true := by simp only [sndOk, Bool.and_eq_true] at g; exact g.1.1.1
    obtain ⟨h1, h2, h3⟩ := chan_len g
    simp only [List.length_append, List.length_cons, List.length_nil]
    omega
  · simp [chNo]
set_option maxRecDepth 100000 in
set_option maxHeartbeats 8000000 in
theorem SendMessage_spec (As : Option Addr) (cs : Nat) (s : List Msg) (Ar : Option Addr) (cr : Nat) (r : List Msg) (Ah : Option Addr) (ch : Nat) (h : List Msg) (f b : ByteArray) (w : World) (hls : s.length ≤ 1048576) (hms : ∀ y ∈ s, y.f.size ≤ 1048576 ∧ y.b.size ≤ 1048576) (hSs : Msgs w 0 w.heap.size As s) (hcs : s.length ≤ cs) (hlr : r.length ≤ 1048576) (hmr : ∀ y ∈ r, y.f.size ≤ 1048576 ∧ y.b.size ≤ 1048576) (hSr : Msgs w 0 w.heap.size Ar r) (hcr : r.length ≤ cr) (hlh : h.length ≤ 1048576) (hmh : ∀ y ∈ h, y.f.size ≤ 1048576 ∧ y.b.size ≤ 1048576) (hSh : Msgs w 0 w.heap.size Ah h) (hch : h.length ≤ ch) (hsf : f.size ≤ 1048576) (hsb : b.size ≤ 1048576) :
    Calls Tryz.prog 108 #[.agg #[.slice As s.length cs, .slice Ar r.length cr, .slice Ah h.length ch], .string f, .string b] w (RCT w (sndT s r h f b)) := by
  obtain ⟨i0, hi0, hz0, hz1, hz2⟩ := info_parts Msg.info
  generalize hT : sndT s r h f b = t
  replace hT := Lib.hid hT
  have e1 : (w.alloc (.cells #[.slice As s.length cs, .slice Ar r.length cr, .slice Ah h.length ch] 26)).heap.size = w.heap.size + 1 := by simp
  have hX := (B3.new w (.slice As s.length cs) (.slice Ar r.length cr) (.slice Ah h.length ch) 26 _ rfl).alloc (.cells #[.slice none 0 0, .slice none 0 0, .slice none 0 0] 26)
  have hR := B3.new (w.alloc (.cells #[.slice As s.length cs, .slice Ar r.length cr, .slice Ah h.length ch] 26)) (.slice none 0 0) (.slice none 0 0) (.slice none 0 0) 26 (w.heap.size + 1) e1.symm
  obtain ⟨b0, b1, b2, _, _, _⟩ := id hX
  go_enter Tryz.func108, Tryz.ntmps108
  go_wp2_with fail
  refine (raGood_any As cs s Ar cr r Ah ch h _ hls hms ((hSs.alloc _).alloc _).all hcs hlr hmr ((hSr.alloc _).alloc _).all hcr hlh hmh ((hSh.alloc _).alloc _).all hch).mono ?_
  rintro e v1 ⟨rfl, hb⟩
  have hB : Below w.heap.size w v1 := Below.on' (by go_grown) hb
  replace hX := hX.below hb
  replace hR := hR.below hb
  clear b0 b1 b2 e1 hb
  obtain ⟨b0, b1, b2, _, _, _⟩ := id hX
  by_cases g : chanB s r h = true
  rotate_left
  · have g : chanB s r h = false := by simpa using g
    obtain rfl : chNo = t := (sndT_no (by rw [sndOk, g]; rfl)).trans hT.out
    rw [g]
    obtain ⟨k0, k1, k2, f0, f1, f2⟩ := id hR
    have hR' := ((hR.set0 (.slice none 0 0)).set1 (.slice none 0 0)).set2 (.slice none 0 0)
    have hF : Fr (w.heap.size + 1) ((w.heap.size + 1) + 1) v1 (((v1.setCell ⟨(w.heap.size + 1), 0, none⟩ (.slice none 0 0)).setCell ⟨(w.heap.size + 1), 1, none⟩ (.slice none 0 0)).setCell ⟨(w.heap.size + 1), 2, none⟩ (.slice none 0 0)) := (((Fr.refl _ _ _).setCell ⟨by simp, by simp⟩ _).setCell ⟨by simp, by simp⟩ _).setCell ⟨by simp, by simp⟩ _
    have hB' := hB.trans (hF.below (B := w.heap.size) (by omega) (by have := hB.size; omega))
    have hI := IntC.nil_ _ (base := w.heap.size) hB'.size
    obtain ⟨x0, x1, x2, _, _, _⟩ := id hR'
    go_wp2
    refine bodyPost_ret (by simp [results, Tryz.results108, go_sem, x0, x1, x2]; try rfl) rfl ?_
    exact ⟨none, 0, none, 0, none, 0, rfl, hI, hB'⟩
  rw [g]
  go_wp2_with fail
  refine (apName_any f _ hsf).mono ?_
  rintro e v2 ⟨rfl, hb⟩
  replace hB := Below.on' hB hb
  replace hX := hX.below hb
  replace hR := hR.below hb
  clear b0 b1 b2 hb
  obtain ⟨b0, b1, b2, _, _, _⟩ := id hX
  by_cases g2 : nameB f = true
  rotate_left
  · have g2 : nameB f = false := by simpa using g2
    obtain rfl : chNo = t := (sndT_no (by rw [sndOk, g, g2]; rfl)).trans hT.out
    rw [g2]
    obtain ⟨k0, k1, k2, f0, f1, f2⟩ := id hR
    have hR' := ((hR.set0 (.slice none 0 0)).set1 (.slice none 0 0)).set2 (.slice none 0 0)
    have hF : Fr (w.heap.size + 1) ((w.heap.size + 1) + 1) v2 (((v2.setCell ⟨(w.heap.size + 1), 0, none⟩ (.slice none 0 0)).setCell ⟨(w.heap.size + 1), 1, none⟩ (.slice none 0 0)).setCell ⟨(w.heap.size + 1), 2, none⟩ (.slice none 0 0)) := (((Fr.refl _ _ _).setCell ⟨by simp, by simp⟩ _).setCell ⟨by simp, by simp⟩ _).setCell ⟨by simp, by simp⟩ _
    have hB' := hB.trans (hF.below (B := w.heap.size) (by omega) (by have := hB.size; omega))
    have hI := IntC.nil_ _ (base := w.heap.size) hB'.size
    obtain ⟨x0, x1, x2, _, _, _⟩ := id hR'
    go_wp2
    refine bodyPost_ret (by simp [results, Tryz.results108, go_sem, x0, x1, x2]; try rfl) rfl ?_
    exact ⟨none, 0, none, 0, none, 0, rfl, hI, hB'⟩
  rw [g2]
  go_wp2_with fail
  refine (raBody_any b _ hsb).mono ?_
  rintro e v3 ⟨rfl, hb⟩
  replace hB := Below.on' hB hb
  replace hX := hX.below hb
  replace hR := hR.below hb
  clear b0 b1 b2 hb
  obtain ⟨b0, b1, b2, _, _, _⟩ := id hX
  by_cases g3 : bodyB b = true
  rotate_left
  · have g3 : bodyB b = false := by simpa using g3
    obtain rfl : chNo = t := (sndT_no (by rw [sndOk, g, g2, g3]; rfl)).trans hT.out
    rw [g3]
    obtain ⟨k0, k1, k2, f0, f1, f2⟩ := id hR
    have hR' := ((hR.set0 (.slice none 0 0)).set1 (.slice none 0 0)).set2 (.slice none 0 0)
    have hF : Fr (w.heap.size + 1) ((w.heap.size + 1) + 1) v3 (((v3.setCell ⟨(w.heap.size + 1), 0, none⟩ (.slice none 0 0)).setCell ⟨(w.heap.size + 1), 1, none⟩ (.slice none 0 0)).setCell ⟨(w.heap.size + 1), 2, none⟩ (.slice none 0 0)) := (((Fr.refl _ _ _).setCell ⟨by simp, by simp⟩ _).setCell ⟨by simp, by simp⟩ _).setCell ⟨by simp, by simp⟩ _
    have hB' := hB.trans (hF.below (B := w.heap.size) (by omega) (by have := hB.size; omega))
    have hI := IntC.nil_ _ (base := w.heap.size) hB'.size
    obtain ⟨x0, x1, x2, _, _, _⟩ := id hR'
    go_wp2
    refine bodyPost_ret (by simp [results, Tryz.results108, go_sem, x0, x1, x2]; try rfl) rfl ?_
    exact ⟨none, 0, none, 0, none, 0, rfl, hI, hB'⟩
  rw [g3]
  by_cases g4 : s.length = 30
  · have g4' : (s.length : Int) = 30 := by omega
    obtain rfl : chNo = t := (sndT_no (by rw [sndOk, g, g2, g3, g4]; rfl)).trans hT.out
    clear hT g4
    obtain ⟨k0, k1, k2, f0, f1, f2⟩ := id hR
    have hR' := ((hR.set0 (.slice none 0 0)).set1 (.slice none 0 0)).set2 (.slice none 0 0)
    have hF : Fr (w.heap.size + 1) ((w.heap.size + 1) + 1) v3 (((v3.setCell ⟨(w.heap.size + 1), 0, none⟩ (.slice none 0 0)).setCell ⟨(w.heap.size + 1), 1, none⟩ (.slice none 0 0)).setCell ⟨(w.heap.size + 1), 2, none⟩ (.slice none 0 0)) := (((Fr.refl _ _ _).setCell ⟨by simp, by simp⟩ _).setCell ⟨by simp, by simp⟩ _).setCell ⟨by simp, by simp⟩ _
    have hB' := hB.trans (hF.below (B := w.heap.size) (by omega) (by have := hB.size; omega))
    have hI := IntC.nil_ _ (base := w.heap.size) hB'.size
    obtain ⟨x0, x1, x2, _, _, _⟩ := id hR'
    go_wp2
    refine bodyPost_ret (by simp [results, Tryz.results108, go_sem, x0, x1, x2]; try rfl) rfl ?_
    exact ⟨none, 0, none, 0, none, 0, rfl, hI, hB'⟩
  have g4' : ((s.length : Int) == 30) = false := by simp; omega
  obtain rfl := (sndT_yes (by rw [sndOk, g, g2, g3]; simpa using g4)).trans hT.out
  clear hT g2 g3 g4
  generalize hL : s ++ [⟨f, (cntM s f : Int) + 1, b⟩] = L
  replace hL := Lib.hid hL
  have hv : cntM s f ≤ 1048576 := Nat.le_trans (cntM_le s f) hls
  go_wp2_with fail
  refine (raOwn_any As cs s Ar cr r Ah ch h _ hls (hSs.below hB).all hlr (hSr.below hB).all hlh (hSh.below hB).all).mono ?_
  rintro e v4 ⟨A1, c1, A2, c2, A3, c3, rfl, hO, hb⟩
  have hz := hR.lt
  have hz4 := hb.size
  replace hB := Below.on' hB hb
  replace hX := hX.below hb
  replace hR := hR.below hb
  clear b0 b1 b2 hb
  obtain ⟨b0, b1, b2, _, _, _⟩ := id hX
  have hY := B3.new v4 (.slice A1 s.length c1) (.slice A2 r.length c2) (.slice A3 h.length c3) 26 _ rfl
  replace hX := hX.alloc (.cells #[.slice A1 s.length c1, .slice A2 r.length c2, .slice A3 h.length c3] 26)
  replace hR := hR.alloc (.cells #[.slice A1 s.length c1, .slice A2 r.length c2, .slice A3 h.length c3] 26)
  have hB5 := hB.alloc hB.size (.cells #[.slice A1 s.length c1, .slice A2 r.length c2, .slice A3 h.length c3] 26)
  have hd1 := dis_lt hO.o1.blk
  have hd2 := dis_lt hO.o2.blk
  have hd3 := dis_lt hO.o3.blk
  have hO5 := hO.alloc (.cells #[.slice A1 s.length c1, .slice A2 r.length c2, .slice A3 h.length c3] 26)
  have hbs : v3.heap.size ≤ (v4.alloc (.cells #[.slice A1 s.length c1, .slice A2 r.length c2, .slice A3 h.length c3] 26)).heap.size := by simp; omega
  go_upto_region 4 with fail
  refine wp_region_held_drew (S := fun _ => True) (by kernel_rfl) trivial (fun _ => ?_)
  replace hX := hX.drew
  replace hR := hR.drew
  replace hY := hY.drew
  replace hO5 := hO5.drew
  replace hB5 := hB5.drew
  have hz5 : v4.heap.size + 1 = (v4.alloc (.cells #[.slice A1 s.length c1, .slice A2 r.length c2, .slice A3 h.length c3] 26)).drew.heap.size := by rw [show (v4.alloc (.cells #[.slice A1 s.length c1, .slice A2 r.length c2, .slice A3 h.length c3] 26)).drew.heap.size = (v4.alloc (.cells #[.slice A1 s.length c1, .slice A2 r.length c2, .slice A3 h.length c3] 26)).heap.size from rfl]; simp
  generalize (v4.alloc (.cells #[.slice A1 s.length c1, .slice A2 r.length c2, .slice A3 h.length c3] 26)).drew = W0 at hX hR hY hO5 hB5 hz5 ⊢
  clear hB hO b0 b1 b2 hbs
  change wpAnyH _ _ _ _ _ 14 #[false, false, false, false, false, false, false, false, false, false, false, false, false, false] _ _
  refine wpAnyH_takeL (i := 0) (v := .pointer (some ⟨v4.heap.size, 0, none⟩)) rfl (by kernel_rfl) (by kernel_rfl) (by kernel_rfl) (fun _ _ _ h => h) (Or.inl ⟨by rfl, fun w' _ => by go_simp⟩) trivial ?_
  simp only [Act.put, List.setIfInBounds_toArray, List.set_cons_zero, List.set_cons_succ]
  refine wpAnyH_takeL (i := 2) (v := .string f) rfl (by kernel_rfl) (by kernel_rfl) (by kernel_rfl) (fun _ _ _ h => h) (Or.inl ⟨by rfl, fun w' _ => by go_simp⟩) trivial ?_
  simp only [Act.put, List.setIfInBounds_toArray, List.set_cons_zero, List.set_cons_succ]
  refine wpAnyH_takeL (i := 3) (v := .pointer (some ⟨w.heap.size, 0, none⟩)) rfl (by kernel_rfl) (by kernel_rfl) (by kernel_rfl) (fun _ _ _ h => h) (Or.inl ⟨by rfl, fun w' _ => by go_simp⟩) trivial ?_
  simp only [Act.put, List.setIfInBounds_toArray, List.set_cons_zero, List.set_cons_succ]
  refine wpAnyH_takeL (i := 5) (v := .string f) rfl (by kernel_rfl) (by kernel_rfl) (by kernel_rfl) (fun _ _ _ h => h) (Or.inl ⟨by rfl, fun w' _ => by go_simp⟩) trivial ?_
  simp only [Act.put, List.setIfInBounds_toArray, List.set_cons_zero, List.set_cons_succ]
  refine wpAnyH_takeL (i := 8) (v := .string b) rfl (by kernel_rfl) (by kernel_rfl) (by kernel_rfl) (fun _ _ _ h => h) (Or.inl ⟨by rfl, fun w' _ => by go_simp⟩) trivial ?_
  simp only [Act.put, List.setIfInBounds_toArray, List.set_cons_zero, List.set_cons_succ]
  refine wpAnyH_inv (m := 3) (I := fun n l a W => ∃ x y v32 v35 v37 v38 v40 v41, n + x + y = 6 ∧ x ≤ 1 ∧ y ≤ 5 ∧ l = #[true, decide (1 ≤ x), true, true, decide (1 ≤ y), true, decide (2 ≤ y), decide (3 ≤ y), true, decide (4 ≤ y), decide (5 ≤ y), false, false, false] ∧ a = ⟨#[.agg #[.slice As s.length cs, .slice Ar r.length cr, .slice Ah h.length ch], .string f, .string b, .pointer (some ⟨w.heap.size, 0, none⟩), undef, undef, .pointer (some ⟨w.heap.size + 1, 0, none⟩), .bool false, .pointer (some ⟨v4.heap.size, 0, none⟩), .agg #[.slice As s.length cs, .slice Ar r.length cr, .slice Ah h.length ch], .bool true, .bool false, .bool false, .string f, .bool true, .bool false, .bool false, .bool false, .string b, .bool true, .bool false, .bool false, .bool false, .pointer (some ⟨w.heap.size, 0, none⟩), .slice As s.length cs, .int .i64 s.length, .bool false, .bool false, undef, .agg #[.slice As s.length cs, .slice Ar r.length cr, .slice Ah h.length ch], .agg #[.slice A1 s.length c1, .slice A2 r.length c2, .slice A3 h.length c3], .pointer (some ⟨v4.heap.size, 0, none⟩), v32, .string f, .pointer (some ⟨w.heap.size, 0, none⟩), v35, .string f, v37, v38, .string b, v40, v41, undef, undef, undef], []⟩ ∧ (1 ≤ x → v32 = .slice A1 s.length c1) ∧ (1 ≤ y → v35 = .slice As s.length cs) ∧ (2 ≤ y → v37 = .int .i64 (cntM s f)) ∧ (3 ≤ y → v38 = .int .i64 ((cntM s f : Int) + 1)) ∧ (4 ≤ y → v40 = .agg #[.string f, .int .i64 ((cntM s f : Int) + 1), .string b]) ∧ (5 ≤ y → ∃ g, v41 = .slice (some ⟨g, 0, none⟩) 1 1 ∧ Msgs W 0 W.heap.size (some ⟨g, 0, none⟩) [⟨f, (cntM s f : Int) + 1, b⟩]) ∧ B3 w.heap.size (.slice As s.length cs) (.slice Ar r.length cr) (.slice Ah h.length ch) W ∧ B3 v4.heap.size (.slice A1 s.length c1) (.slice A2 r.length c2) (.slice A3 h.length c3) W ∧ B3 (w.heap.size + 1) (.slice none 0 0) (.slice none 0 0) (.slice none 0 0) W ∧ OwnC W v3.heap.size A1 c1 s A2 c2 r A3 c3 h ∧ Below w.heap.size w W) ?_ ?_ 6 _ _ _ ⟨0, 0, undef, undef, undef, undef, undef, undef, rfl, by omega, by omega, rfl, rfl, by omega, by omega, by omega, by omega, by omega, by omega, hX, hY, hR, hO5, hB5⟩
  · rintro n l a W ⟨x, y, v32, v35, v37, v38, v40, v41, hn, hx, hy, rfl, rfl, e32, e35, e37, e38, e40, e41, hX, hY, hR, hO, hB⟩
    refine ⟨?_, fun i' o ho hi K hK => ?_⟩
    · rcases (by omega : x = 0 ∨ x = 1) with rfl | rfl <;> rcases (by omega : y = 0 ∨ y = 1 ∨ y = 2 ∨ y = 3 ∨ y = 4 ∨ y = 5) with rfl | rfl | rfl | rfl | rfl | rfl <;> first | kernel_rfl | (exfalso; omega)
    · obtain ⟨hun, _⟩ := mem_ready.1 hi
      have hcont := List.contains_iff_mem.2 hi
      have hw : IntKind.i64.wrap ((cntM s f : Int) + 1) = (cntM s f : Int) + 1 := IntWalk.i64_in _ (by omega)
      obtain ⟨z0, z1, z2, _, _, _⟩ := id hX
      obtain ⟨z3, z4, z5, _, _, _⟩ := id hY
      have hi17 : i' = 0 ∨ i' = 1 ∨ i' = 2 ∨ i' = 3 ∨ i' = 4 ∨ i' = 5 ∨ i' = 6 ∨ i' = 7 ∨ i' = 8 ∨ i' = 9 ∨ i' = 10 ∨ i' = 11 ∨ i' = 12 ∨ i' = 13 := by
        have := (List.getElem?_eq_some_iff.1 ho).1
        simp only [List.length_cons, List.length_nil] at this
        omega
      rcases hi17 with rfl | rfl | rfl | rfl | rfl | rfl | rfl | rfl | rfl | rfl | rfl | rfl | rfl | rfl
      · cases hun
      · have hx0 : x = 0 := by have := of_decide_eq_false hun; omega
        subst hx0
        obtain rfl := Option.some.inj ho
        clear ho hi hcont hun
        go_simp
        exact hK.out _ _ trivial ⟨1, y, _, v35, v37, v38, v40, v41, by omega, by omega, by omega, rfl, rfl, fun _ => rfl, e35, e37, e38, e40, e41, hX, hY, hR, hO, hB⟩
      · cases hun
      · cases hun
      · have hy1 : y ≤ 0 := by have := of_decide_eq_false hun; omega
        have hy0 : y = 0 := by
          omega
        subst hy0
        obtain rfl := Option.some.inj ho
        clear ho hi hcont hun
        go_simp
        exact hK.out _ _ trivial ⟨x, 1, v32, _, v37, v38, v40, v41, by omega, by omega, by omega, rfl, rfl, e32, fun _ => rfl, by omega, by omega, by omega, by omega, hX, hY, hR, hO, hB⟩
      · cases hun
      · have hy1 : y ≤ 1 := by have := of_decide_eq_false hun; omega
        have hy0 : y = 1 := by
          rcases (by omega : x = 0 ∨ x = 1) with rfl | rfl <;> rcases (by omega : y = 0 ∨ y = 1) with rfl | rfl <;> first | rfl | exact absurd (hcont.symm.trans (by kernel_rfl : _ = false)) (by decide)
        subst hy0
        obtain rfl := Option.some.inj ho
        clear ho hi hcont hun
        obtain rfl := e35 (by omega)
        go_simp
        go_at_call 131
        refine (raCount_any As cs s f _ hls (hSs.below hB).all).mono ?_
        rintro e V ⟨rfl, hb⟩
        go_simp
        exact hK.out _ _ trivial ⟨x, 2, v32, _, _, v38, v40, v41, by omega, by omega, by omega, rfl, rfl, e32, fun _ => rfl, fun _ => rfl, by omega, by omega, by omega, hX.below hb, hY.below hb, hR.below hb, hO.below hb, Below.on' hB hb⟩
      · have hy1 : y ≤ 2 := by have := of_decide_eq_false hun; omega
        have hy0 : y = 2 := by
          rcases (by omega : x = 0 ∨ x = 1) with rfl | rfl <;> rcases (by omega : y = 0 ∨ y = 1 ∨ y = 2) with rfl | rfl | rfl <;> first | rfl | exact absurd (hcont.symm.trans (by kernel_rfl : _ = false)) (by decide)
        subst hy0
        obtain rfl := Option.some.inj ho
        clear ho hi hcont hun
        obtain rfl := e35 (by omega)
        obtain rfl := e37 (by omega)
        go_simp
        exact hK.out _ _ trivial ⟨x, 3, v32, _, _, _, v40, v41, by omega, by omega, by omega, rfl, rfl, e32, fun _ => rfl, fun _ => rfl, fun _ => rfl, by omega, by omega, hX, hY, hR, hO, hB⟩
      · cases hun
      · have hy1 : y ≤ 3 := by have := of_decide_eq_false hun; omega
        have hy0 : y = 3 := by
          rcases (by omega : x = 0 ∨ x = 1) with rfl | rfl <;> rcases (by omega : y = 0 ∨ y = 1 ∨ y = 2 ∨ y = 3) with rfl | rfl | rfl | rfl <;> first | rfl | exact absurd (hcont.symm.trans (by kernel_rfl : _ = false)) (by decide)
        subst hy0
        obtain rfl := Option.some.inj ho
        clear ho hi hcont hun
        obtain rfl := e35 (by omega)
        obtain rfl := e37 (by omega)
        obtain rfl := e38 (by omega)
        go_simp
        exact hK.out _ _ trivial ⟨x, 4, v32, _, _, _, _, v41, by omega, by omega, by omega, rfl, rfl, e32, fun _ => rfl, fun _ => rfl, fun _ => rfl, fun _ => rfl, by omega, hX, hY, hR, hO, hB⟩
      · have hy1 : y ≤ 4 := by have := of_decide_eq_false hun; omega
        have hy0 : y = 4 := by
          rcases (by omega : x = 0 ∨ x = 1) with rfl | rfl <;> rcases (by omega : y = 0 ∨ y = 1 ∨ y = 2 ∨ y = 3 ∨ y = 4) with rfl | rfl | rfl | rfl | rfl <;> first | rfl | exact absurd (hcont.symm.trans (by kernel_rfl : _ = false)) (by decide)
        subst hy0
        obtain rfl := Option.some.inj ho
        clear ho hi hcont hun
        obtain rfl := e35 (by omega)
        obtain rfl := e37 (by omega)
        obtain rfl := e38 (by omega)
        obtain rfl := e40 (by omega)
        go_simp
        exact hK.out _ _ trivial ⟨x, 5, v32, _, _, _, _, _, by omega, by omega, by omega, rfl, rfl, e32, fun _ => rfl, fun _ => rfl, fun _ => rfl, fun _ => rfl, fun _ => ⟨W.heap.size, rfl, sl_one W ⟨f, (cntM s f : Int) + 1, b⟩⟩, hX.alloc _, hY.alloc _, hR.alloc _, hO.alloc _, hB.alloc hB.size _⟩
      · exfalso
        rcases (by omega : x = 0 ∨ x = 1) with rfl | rfl <;> rcases (by omega : y = 0 ∨ y = 1 ∨ y = 2 ∨ y = 3 ∨ y = 4 ∨ y = 5) with rfl | rfl | rfl | rfl | rfl | rfl <;> first | omega | exact absurd (hcont.symm.trans (by kernel_rfl : _ = false)) (by decide)
      · exfalso
        rcases (by omega : x = 0 ∨ x = 1) with rfl | rfl <;> rcases (by omega : y = 0 ∨ y = 1 ∨ y = 2 ∨ y = 3 ∨ y = 4 ∨ y = 5) with rfl | rfl | rfl | rfl | rfl | rfl <;> first | omega | exact absurd (hcont.symm.trans (by kernel_rfl : _ = false)) (by decide)
      · exfalso
        rcases (by omega : x = 0 ∨ x = 1) with rfl | rfl <;> rcases (by omega : y = 0 ∨ y = 1 ∨ y = 2 ∨ y = 3 ∨ y = 4 ∨ y = 5) with rfl | rfl | rfl | rfl | rfl | rfl <;> first | omega | exact absurd (hcont.symm.trans (by kernel_rfl : _ = false)) (by decide)
  · rintro l a W ⟨x, y, v32, v35, v37, v38, v40, v41, hn, hx, hy, rfl, rfl, e32, e35, e37, e38, e40, e41, hX, hY, hR, hO, hB⟩
    obtain ⟨rfl, rfl⟩ : x = 1 ∧ y = 5 := by omega
    obtain rfl := e32 (by omega)
    obtain ⟨g, rfl, hG⟩ := e41 (by omega)
    have hYl := hY.lt
    change wpAnyH _ _ _ _ _ _ #[true, true, true, true, true, true, true, true, true, true, true, false, false, false] _ _
    refine wpAnyH_ready (rs := [11]) (by kernel_rfl) (by simp) ?_
    refine AllReadyH.consL rfl (fun K hK => ?_) AllReadyH.nil
    rw [if_pos (by rfl)]
    refine wp_append_all W (.tmp 32) (.tmp 41) _ rfl i0 _ _ Tryz.underlying24 hi0 hz0 hz1 hz2 rfl (by omega) Msg.len Msg.one hO.o1 hG rfl rfl (by simp only [List.length_cons, List.length_nil]; unfold maxLen; omega) (by simp only [List.length_cons, List.length_nil]; omega) (by omega) ?_
    intro A' c' V hOw hbw hbut hd
    rw [hL.out] at hOw ⊢
    refine hK.out _ _ trivial (fun _ => ?_)
    clear hK K
    have hO3 := hO.push1 hOw hbut hd
    have hY3 := hY.same (hbut v4.heap.size hY.lt (fun a ha => hd1 a _ ha rfl))
    have hdN := hd (some ⟨v4.heap.size, 0, none⟩) hd1 (fun a ha => by injection ha with ha; subst ha; exact hYl)
    have hR3 := hR.upto (by omega) hbw
    have hB3 := hB.trans (hbw.mono (by omega))
    obtain ⟨g0, g1, g2, g3, g4, g5⟩ := id hY3
    refine wpAnyH_takeL (i := 12) (v := .pointer (some ⟨v4.heap.size, 0, none⟩)) rfl (by kernel_rfl) (by kernel_rfl) (by kernel_rfl) (fun _ _ _ h => h) (Or.inl ⟨by rfl, fun w' _ => by go_simp⟩) trivial ?_
    simp only [Act.put, List.setIfInBounds_toArray, List.set_cons_zero, List.set_cons_succ]
    refine wpAnyH_ready (rs := [13]) (by kernel_rfl) (by simp) ?_
    refine AllReadyH.consL rfl (fun K hK => ?_) AllReadyH.nil
    go_simp
    refine hK.out _ _ trivial (fun _ => ?_)
    clear hK K
    refine wpAnyH_done (by kernel_rfl) ?_ _
    have hFg : Fr v4.heap.size (v4.heap.size + 1) V (V.setCell ⟨v4.heap.size, 0, none⟩ (.slice A' L.length c')) := (Fr.refl _ _ _).setCell ⟨by simp, by simp⟩ _
    replace hO := hO3.apart hFg hdN hd2 hd3
    replace hY := hY3.set0 (.slice A' L.length c')
    replace hR := hR3.off (p := ⟨v4.heap.size, 0, none⟩) (by simp; omega) (.slice A' L.length c')
    have hszV : v4.heap.size < V.heap.size := hY3.lt
    replace hB := hB3.trans (hFg.below (B := w.heap.size) (by omega) (by omega))
    obtain ⟨y0, y1, y2, _, _, _⟩ := id hY
    clear hY3 hO3 hR3 hB3 hOw hbw hbut hd hX
    obtain ⟨k0, k1, k2, f0, f1, f2⟩ := id hR
    have hR' := ((hR.set0 (.slice A' L.length c')).set1 (.slice A2 r.length c2)).set2 (.slice A3 h.length c3)
    have hF : Fr (w.heap.size + 1) ((w.heap.size + 1) + 1) (V.setCell ⟨v4.heap.size, 0, none⟩ (.slice A' L.length c')) ((((V.setCell ⟨v4.heap.size, 0, none⟩ (.slice A' L.length c')).setCell ⟨(w.heap.size + 1), 0, none⟩ (.slice A' L.length c')).setCell ⟨(w.heap.size + 1), 1, none⟩ (.slice A2 r.length c2)).setCell ⟨(w.heap.size + 1), 2, none⟩ (.slice A3 h.length c3)) := (((Fr.refl _ _ _).setCell ⟨by simp, by simp⟩ _).setCell ⟨by simp, by simp⟩ _).setCell ⟨by simp, by simp⟩ _
    have hB' := hB.trans (hF.below (B := w.heap.size) (by omega) (by have := hB.size; omega))
    have hO' := (hO.far hF (by omega)).lift (b0 := w.heap.size) (by omega); have hI := hO'.ints hB'.size
    obtain ⟨x0, x1, x2, _, _, _⟩ := id hR'
    go_wp2
    refine bodyPost_ret (by simp [results, Tryz.results108, go_sem, x0, x1, x2]; try rfl) rfl ?_
    obtain rfl := hL.out
    exact ⟨A', c', A2, c2, A3, c3, rfl, hI, hB'⟩
theorem IntC.fr {w w' : World} {base b0 lo hi : Nat} {A1 A2 A3 : Option Addr} {s r h : List Msg} (o : IntC w base A1 s A2 r A3 h) (hF : Fr lo hi w w') (hd : hi ≤ base) (hb : b0 ≤ base) : IntC w' b0 A1 s A2 r A3 h := by
  obtain ⟨l1, h1, l2, h2, l3, h3, S1, S2, S3, B1, B2, B3, d⟩ := o
  have := hF.size
  exact ⟨l1, h1, l2, h2, l3, h3, S1.fr hF (by omega), S2.fr hF (by omega), S3.fr hF (by omega), ⟨by omega, B1.2.1, by omega⟩, ⟨by omega, B2.2.1, by omega⟩, ⟨by omega, B3.2.1, by omega⟩, d⟩
def sndU (s r h : List Msg) (f b : ByteArray) : (List Msg × List Msg × List Msg) × Bool := if s.length = 30 then chNo else ((s ++ [⟨f, (cntM s f : Int) + 1, b⟩], r, h), true)
theorem sndT_U {s r h : List Msg} {f b : ByteArray} (g1 : chanB s r h = true) (g2 : nameB f = true) (g3 : bodyB b = true) : sndU s r h f b = sndT s r h f b := by
  unfold sndU sndT sndOk
  rw [g1, g2, g3]
  by_cases h : s.length = 30 <;> simp [h]
set_option maxRecDepth 100000 in
set_option maxHeartbeats 8000000 in
theorem sendMessage_any (pb po : Nat) (As : Option Addr) (cs : Nat) (s : List Msg) (Ar : Option Addr) (cr : Nat) (r : List Msg) (Ah : Option Addr) (ch : Nat) (h : List Msg) (f b : ByteArray) (w : World) (hX : C3 pb po (.slice As s.length cs) (.slice Ar r.length cr) (.slice Ah h.length ch) w) (hls : s.length ≤ 1048576) (hSs : Msgs w 0 w.heap.size As s) (hlr : r.length ≤ 1048576) (hSr : Msgs w 0 w.heap.size Ar r) (hlh : h.length ≤ 1048576) (hSh : Msgs w 0 w.heap.size Ah h) :
    Calls Tryz.prog 103 #[.pointer (some ⟨pb, po, none⟩), .string f, .string b] w (RCT w (sndU s r h f b)) := by
  obtain ⟨i0, hi0, hz0, hz1, hz2⟩ := info_parts Msg.info
  generalize hT : sndU s r h f b = t
  replace hT := Lib.hid hT
  have hR0 := B3.new w (.slice none 0 0) (.slice none 0 0) (.slice none 0 0) 26 _ rfl
  have hX0 := hX.alloc (.cells #[.slice none 0 0, .slice none 0 0, .slice none 0 0] 26)
  have hB0 : Below w.heap.size w (w.alloc (.cells #[.slice none 0 0, .slice none 0 0, .slice none 0 0] 26)) := by go_grown
  obtain ⟨b0, b1, b2, _, _, _⟩ := id hX0
  have hpb := hX.lt
  go_enter Tryz.func103, Tryz.ntmps103
  go_wp2_with fail
  go_loopw [8, 17] (fun o i wr => ∃ (k : Nat) (v : Int), k ≤ s.length ∧ i = .int .i64 k ∧ o = .int .i64 v ∧ 1 ≤ v ∧ v ≤ k + 1 ∧ Hid (v = cntM (s.take k) f + 1) ∧ C3 pb po (.slice As s.length cs) (.slice Ar r.length cr) (.slice Ah h.length ch) wr ∧ B3 w.heap.size (.slice none 0 0) (.slice none 0 0) (.slice none 0 0) wr ∧ Below w.heap.size w wr) (fun _ i _ => s.length - (intOf i).toNat)
  case atStart => exact ⟨0, 1, Nat.zero_le _, rfl, rfl, by omega, by omega, Lib.hid (by simp [cntM]), hX0, hR0, hB0⟩
  case round =>
    obtain ⟨k, v, hk, rfl, rfl, hv0, hv1, HF, hX, hR, hB⟩ := hrel
    clear hX0 b0 b1 b2 hR0 hB0
    have hz := hB.size
    by_cases hlt : k < s.length
    · obtain ⟨x, hx, _⟩ := get_lt hlt
      have HC := Lib.hid (cntM_step hx f)
      obtain ⟨b', off, rfl, _, kb, _, hf⟩ := (hSs.below hB).at_ hx
      have c0 : wr.cell? ⟨b', off + k * 3, none⟩ = some (.string x.f) := (hf 0 _ rfl).1
      have c1 : wr.cell? ⟨b', off + k * 3 + 1, none⟩ = some (.int .i64 x.n) := (hf 1 _ rfl).1
      have c2 : wr.cell? ⟨b', off + k * 3 + 2, none⟩ = some (.string x.b) := (hf 2 _ rfl).1
      clear hf hx
      replace hX := hX.alloc (.cells #[.string x.f, .int .i64 x.n, .string x.b] 33)
      replace hR := hR.alloc (.cells #[.string x.f, .int .i64 x.n, .string x.b] 33)
      by_cases q : x.f.toList = f.toList
      · have HD : Hid (v + 1 = cntM (s.take (k + 1)) f + 1) := Lib.hid (by rw [HC.out, HF.out, if_pos q])
        clear HC HF
        go_wp2
        go_roundw
        case rel => exact ⟨k + 1, v + 1, by omega, by go_num, by go_num, by omega, by omega, HD, hX, hR, by go_grown⟩
        case measure => simp [intOf]; omega
      · have HD : Hid (v = cntM (s.take (k + 1)) f + 1) := Lib.hid (by rw [HC.out, HF.out, if_neg q]; simp)
        have qb : (x.f.toList == f.toList) = false := by simpa using q
        clear HC HF q
        go_wp2
        go_roundw
        case rel => exact ⟨k + 1, v, by omega, by go_num, by go_num, by omega, by omega, HD, hX, hR, by go_grown⟩
        case measure => simp [intOf]; omega
    · obtain rfl : k = s.length := by omega
      rw [List.take_length] at HF
      obtain ⟨b0, b1, b2, _, _, _⟩ := id hX
      by_cases g4 : s.length = 30
      · have g4' : (s.length : Int) = 30 := by omega
        obtain rfl : chNo = t := by rw [← hT.out, sndU, if_pos g4]
        clear hT g4
        obtain ⟨k0, k1, k2, f0, f1, f2⟩ := id hR
        have hR' := ((hR.set0 (.slice none 0 0)).set1 (.slice none 0 0)).set2 (.slice none 0 0)
        have hF : Fr w.heap.size (w.heap.size + 1) wr (((wr.setCell ⟨w.heap.size, 0, none⟩ (.slice none 0 0)).setCell ⟨w.heap.size, 1, none⟩ (.slice none 0 0)).setCell ⟨w.heap.size, 2, none⟩ (.slice none 0 0)) := (((Fr.refl _ _ _).setCell ⟨by simp, by simp⟩ _).setCell ⟨by simp, by simp⟩ _).setCell ⟨by simp, by simp⟩ _
        have hB' := hB.trans (hF.below (B := w.heap.size) (by omega) (by have := hB.size; omega))
        have hI := IntC.nil_ _ (base := w.heap.size) hB'.size
        obtain ⟨x0, x1, x2, _, _, _⟩ := id hR'
        go_wp2
        refine bodyPost_ret (by simp [results, Tryz.results103, go_sem, x0, x1, x2]; try rfl) rfl ?_
        exact ⟨none, 0, none, 0, none, 0, rfl, hI, hB'⟩
      have g4' : ((s.length : Int) == 30) = false := by simp; omega
      have g4'n := g4
      have hzz := hR.lt
      go_wp2_with fail
      refine (copyChannel_any pb po As cs s Ar cr r Ah ch h _ hX hls (hSs.below hB).all hlr (hSr.below hB).all hlh (hSh.below hB).all).mono ?_
      rintro e v1 ⟨A1, c1, A2, c2, A3, c3, rfl, hO, hb⟩
      have hz4 := hb.size
      replace hB := (Below.on' hB hb)
      replace hR := hR.below hb
      clear b0 b1 b2 hb hX
      have hY := B3.new v1 (.slice A1 s.length c1) (.slice A2 r.length c2) (.slice A3 h.length c3) 26 _ rfl
      have hd1 := dis_lt hO.o1.blk
      have hd2 := dis_lt hO.o2.blk
      have hd3 := dis_lt hO.o3.blk
      replace hR := hR.alloc (.cells #[.slice A1 s.length c1, .slice A2 r.length c2, .slice A3 h.length c3] 26)
      replace hB := hB.alloc hB.size (.cells #[.slice A1 s.length c1, .slice A2 r.length c2, .slice A3 h.length c3] 26)
      replace hO := hO.alloc (.cells #[.slice A1 s.length c1, .slice A2 r.length c2, .slice A3 h.length c3] 26)
      have e1 : (v1.alloc (.cells #[.slice A1 s.length c1, .slice A2 r.length c2, .slice A3 h.length c3] 26)).heap.size = v1.heap.size + 1 := by simp
      obtain ⟨y0, y1, y2, f0, f1, f2⟩ := id hY
      obtain ⟨g0, g1, g2, g3, g4, g5⟩ := id hR
      go_wp2_with (at_builtin; refine wpList_append_one2 _ rfl (.tmp 38) (.tmp 43) _ rfl i0 _ _ Tryz.underlying24 hi0 hz0 hz1 hz2 rfl (by omega) Msg.len Msg.one ⟨f, v, b⟩ _ (hO.o1.alloc _) rfl rfl (new_cells_at _ _ _ _ _ (by simp) rfl) (by unfold maxLen; first | omega | (simp; omega)) (by first | omega | (simp; omega)) (by simp; omega) ?_; intro A' c' w' L' hL' hOw hbw hbut hd; have hO3 := (hO.below ((Below.refl _ _).alloc (Nat.le_refl _) _)).push1 hOw hbut hd; have hY3 := (hY.alloc _).same (hbut _ (hY.alloc _).lt (fun a ha => hd1 a _ ha rfl)); have hR3 := (hR.alloc _).upto (by omega) hbw; have hB3 := (hB.alloc hB.size _).trans (hbw.mono (by omega)); have hdN := hd (some ⟨v1.heap.size, 0, none⟩) hd1 (fun a ha => by injection ha with ha; subst ha; simp; omega); have hFg : Fr v1.heap.size (v1.heap.size + 1) w' (w'.setCell ⟨v1.heap.size, 0, none⟩ (.slice A' L'.length c')) := (Fr.refl _ _ _).setCell ⟨by simp, by simp⟩ _; have hO4 := hO3.apart hFg hdN hd2 hd3; have hY4 := hY3.set0 (.slice A' L'.length c'); have hR4 := hR3.off (p := ⟨v1.heap.size, 0, none⟩) (by simp; omega) (.slice A' L'.length c'); have hB4 := hB3.trans (hFg.below (B := w.heap.size) (by omega) (by have := hB3.size; omega)); clear hO hY hR hB hO3 hB3 hFg hOw hbw hbut hd g0 g1 g2 g3 g4 g5 f0 f1 f2 y0 y1 y2; obtain ⟨g0, g1, g2, g3, g4, g5⟩ := id hY3; obtain ⟨y0, y1, y2, _, _, _⟩ := id hY4; obtain ⟨q0, q1, q2, q3, q4, q5⟩ := id hR3; have hR := hR4; have hB := hB4; have hO := hO4; clear hY3 hY4 hR3 hR4 hB4 hO4; obtain ⟨k0, k1, k2, f0, f1, f2⟩ := id hR; have hR' := ((hR.set0 (.slice A' L'.length c')).set1 (.slice A2 r.length c2)).set2 (.slice A3 h.length c3); have hF : Fr w.heap.size (w.heap.size + 1) (w'.setCell ⟨v1.heap.size, 0, none⟩ (.slice A' L'.length c')) ((((w'.setCell ⟨v1.heap.size, 0, none⟩ (.slice A' L'.length c')).setCell ⟨w.heap.size, 0, none⟩ (.slice A' L'.length c')).setCell ⟨w.heap.size, 1, none⟩ (.slice A2 r.length c2)).setCell ⟨w.heap.size, 2, none⟩ (.slice A3 h.length c3)) := (((Fr.refl _ _ _).setCell ⟨by simp, by simp⟩ _).setCell ⟨by simp, by simp⟩ _).setCell ⟨by simp, by simp⟩ _; have hB' := hB.trans (hF.below (B := w.heap.size) (by omega) (by have := hB.size; omega)); have hO' := (hO.far hF (by omega)).lift (b0 := w.heap.size) (by omega); obtain ⟨x0, x1, x2, _, _, _⟩ := id hR')
      obtain rfl : ((L', r, h), true) = t := by rw [hL'.out, ← hT.out, sndU, if_neg g4'n, HF.out]
      refine bodyPost_ret (by simp [results, Tryz.results103, go_sem, x0, x1, x2]; try rfl) rfl ?_
      exact ⟨A', c', A2, c2, A3, c3, rfl, hO'.ints hB'.size, hB'⟩
end Go.Proofs.YtjmjilkpckbpeaaGreatDoor

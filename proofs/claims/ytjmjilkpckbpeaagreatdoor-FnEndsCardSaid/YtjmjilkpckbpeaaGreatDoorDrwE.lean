/- Drawing ends: what it returns, and that only the cursor changes. Conditions: a valid cursor, fewer than 2^39 steps. -/
import Derived.Test.YtjmjilkpckbpeaaGreatDoorDrwF
import Derived.Test.YtjmjilkpckbpeaaGreatDoorDrwN
import Derived.Test.YtjmjilkpckbpeaaGreatDoorSndO
import Derived.Deep.Cut
import Derived.Deep.CutRange
import Derived.Deep.CutBlock
namespace Go.Proofs.YtjmjilkpckbpeaaGreatDoor
open Go.RowKit

theorem own_dis {W : World} {base g c : Nat} {A : Option Addr} {l : List Msg} (o : Own Msg.cells 3 33 W base A c l) (hg : g < base ∨ W.heap.size ≤ g) : Dis A (some ⟨g, 0, none⟩) := fun a a' e e' z => by
  injection e' with e'
  have := o.blk a e
  rw [z, ← e'] at this
  simp only at this
  omega
/-- Ends under way: two fleets apart from each other, the channel in rows of its own, none of it in the blocks bs. -/
def EB (W : World) (base : Nat) (bs : List Nat) (A1 : Option Addr) (f : List App) (A2 : Option Addr) (n : List App) (A3 : Option Addr) (c3 : Nat) (s : List Msg) (A4 : Option Addr) (c4 : Nat) (r : List Msg) (A5 : Option Addr) (c5 : Nat) (h : List Msg) : Prop :=
  ∃ l1 h1 l2 h2, Apps W l1 h1 A1 f ∧ Apps W l2 h2 A2 n ∧ (base ≤ l1 ∧ l1 ≤ h1 ∧ h1 ≤ W.heap.size) ∧ (base ≤ l2 ∧ l2 ≤ h2 ∧ h2 ≤ W.heap.size) ∧ (h1 ≤ l2 ∨ h2 ≤ l1) ∧ OwnC W base A3 c3 s A4 c4 r A5 c5 h ∧ (Out A3 l1 h1 l2 h2 ∧ Out A4 l1 h1 l2 h2 ∧ Out A5 l1 h1 l2 h2) ∧
    ∀ b ∈ bs, ((b < l1 ∨ h1 ≤ b) ∧ (b < l2 ∨ h2 ≤ b)) ∧ (Dis A3 (some ⟨b, 0, none⟩) ∧ Dis A4 (some ⟨b, 0, none⟩) ∧ Dis A5 (some ⟨b, 0, none⟩))
section
variable {W W' : World} {base b1 : Nat} {bs bs' : List Nat} {A1 : Option Addr} {c1 : Nat} {f : List App} {A2 : Option Addr} {c2 : Nat} {n : List App} {A3 : Option Addr} {c3 : Nat} {s : List Msg} {A4 : Option Addr} {c4 : Nat} {r : List Msg} {A5 : Option Addr} {c5 : Nat} {h : List Msg}
theorem EB.of (o : EO W b1 A1 f A2 n A3 c3 s A4 c4 r A5 c5 h) (h0 : base ≤ b1) (hb : ∀ b ∈ bs, b < b1 ∨ W.heap.size ≤ b) : EB W base bs A1 f A2 n A3 c3 s A4 c4 r A5 c5 h := by
  obtain ⟨l1, h1, l2, h2, S1, S2, B1, B2, d, O, u⟩ := o
  exact ⟨l1, h1, l2, h2, S1, S2, ⟨by omega, B1.2⟩, ⟨by omega, B2.2⟩, d, O.lift h0, u, fun b hm => ⟨⟨by have := hb b hm; omega, by have := hb b hm; omega⟩, own_dis O.o1 (hb b hm), own_dis O.o2 (hb b hm), own_dis O.o3 (hb b hm)⟩⟩
theorem EB.below (o : EB W base bs A1 f A2 n A3 c3 s A4 c4 r A5 c5 h) (hb : Below W.heap.size W W') : EB W' base bs A1 f A2 n A3 c3 s A4 c4 r A5 c5 h := by
  obtain ⟨l1, h1, l2, h2, S1, S2, B1, B2, d, O, u, x⟩ := o
  have := hb.size
  exact ⟨l1, h1, l2, h2, S1.below hb, S2.below hb, ⟨B1.1, B1.2.1, by omega⟩, ⟨B2.1, B2.2.1, by omega⟩, d, O.below hb, u, x⟩
theorem EB.fr {lo hi : Nat} (o : EB W base bs A1 f A2 n A3 c3 s A4 c4 r A5 c5 h) (hF : Fr lo hi W W') (hd : hi ≤ base) : EB W' base bs A1 f A2 n A3 c3 s A4 c4 r A5 c5 h := by
  obtain ⟨l1, h1, l2, h2, S1, S2, B1, B2, d, O, u, x⟩ := o
  have := hF.size
  exact ⟨l1, h1, l2, h2, S1.fr hF (by omega), S2.fr hF (by omega), ⟨B1.1, B1.2.1, by omega⟩, ⟨B2.1, B2.2.1, by omega⟩, d, O.far hF hd, u, x⟩
theorem EB.box {g : Nat} (o : EB W base bs A1 f A2 n A3 c3 s A4 c4 r A5 c5 h) (hg : g ∈ bs) (hF : Fr g (g + 1) W W') : EB W' base bs A1 f A2 n A3 c3 s A4 c4 r A5 c5 h := by
  obtain ⟨l1, h1, l2, h2, S1, S2, B1, B2, d, O, u, x⟩ := o
  have := hF.size
  obtain ⟨⟨x1, x2⟩, d3, d4, d5⟩ := x g hg
  exact ⟨l1, h1, l2, h2, S1.fr hF (by omega), S2.fr hF (by omega), ⟨B1.1, B1.2.1, by omega⟩, ⟨B2.1, B2.2.1, by omega⟩, d, O.apart hF d3 d4 d5, u, x⟩
theorem EB.add {g : Nat} (o : EB W base bs A1 f A2 n A3 c3 s A4 c4 r A5 c5 h) (hg : W.heap.size ≤ g) : EB W base (g :: bs) A1 f A2 n A3 c3 s A4 c4 r A5 c5 h := by
  obtain ⟨l1, h1, l2, h2, S1, S2, B1, B2, d, O, u, x⟩ := o
  refine ⟨l1, h1, l2, h2, S1, S2, B1, B2, d, O, u, fun b hb => ?_⟩
  rcases List.mem_cons.1 hb with rfl | hb
  · exact ⟨⟨by omega, by omega⟩, own_dis O.o1 (.inr hg), own_dis O.o2 (.inr hg), own_dis O.o3 (.inr hg)⟩
  · exact x b hb
theorem EB.sub (o : EB W base bs A1 f A2 n A3 c3 s A4 c4 r A5 c5 h) (hs : ∀ b ∈ bs', b ∈ bs) : EB W base bs' A1 f A2 n A3 c3 s A4 c4 r A5 c5 h := by
  obtain ⟨l1, h1, l2, h2, S1, S2, B1, B2, d, O, u, x⟩ := o
  exact ⟨l1, h1, l2, h2, S1, S2, B1, B2, d, O, u, fun b hb => x b (hs b hb)⟩
theorem EB.chan {k3 k4 k5 : Nat} {D3 D4 D5 : Option Addr} {s2 r2 h2' : List Msg} (o : EB W base bs A1 f A2 n A3 c3 s A4 c4 r A5 c5 h) (hb : Below W.heap.size W W') (hc : OwnC W' W.heap.size D3 k3 s2 D4 k4 r2 D5 k5 h2') (h0 : base ≤ W.heap.size) (hbs : ∀ b ∈ bs, b < W.heap.size) : EB W' base bs A1 f A2 n D3 k3 s2 D4 k4 r2 D5 k5 h2' := by
  obtain ⟨l1, h1, l2, h2, S1, S2, B1, B2, d, O, u, x⟩ := o
  have := hb.size
  exact ⟨l1, h1, l2, h2, S1.below hb, S2.below hb, ⟨B1.1, B1.2.1, by omega⟩, ⟨B2.1, B2.2.1, by omega⟩, d, hc.lift h0, ⟨fun a e => by have := hc.o1.blk a e; omega, fun a e => by have := hc.o2.blk a e; omega, fun a e => by have := hc.o3.blk a e; omega⟩,
    fun b hm => ⟨(x b hm).1, own_dis hc.o1 (.inl (hbs b hm)), own_dis hc.o2 (.inl (hbs b hm)), own_dis hc.o3 (.inl (hbs b hm))⟩⟩
end
/-- What the lists of drawn ends are like: L appliances, at most M messages in each list. -/
def EF (L M : Nat) (f n : List App) (s r h : List Msg) : Prop := (f.length ≤ 12 ∧ ∀ y ∈ f, y.nm.size ≤ 7) ∧ (n.length = L ∧ ∀ y ∈ n, y.nm.size ≤ 7) ∧ (s.length ≤ M ∧ sm s) ∧ (r.length ≤ M ∧ sm r) ∧ (h.length ≤ M ∧ sm h)
theorem EF.more {L M M' : Nat} {f n : List App} {s r h : List Msg} (o : EF L M f n s r h) (hM : M ≤ M') : EF L M' f n s r h := ⟨o.1, o.2.1, ⟨Nat.le_trans o.2.2.1.1 hM, o.2.2.1.2⟩, ⟨Nat.le_trans o.2.2.2.1.1 hM, o.2.2.2.1.2⟩, ⟨Nat.le_trans o.2.2.2.2.1 hM, o.2.2.2.2.2⟩⟩
/-- Drawn ends: five lists that can be read, in blocks from base on. -/
structure ED (base : Nat) (W : World) (A1 : Option Addr) (c1 : Nat) (f : List App) (A2 : Option Addr) (c2 : Nat) (n : List App) (A3 : Option Addr) (c3 : Nat) (s : List Msg) (A4 : Option Addr) (c4 : Nat) (r : List Msg) (A5 : Option Addr) (c5 : Nat) (h : List Msg) : Prop where
  ef : EF n.length 100 f n s r h
  nl : n.length ≤ 12
  k3 : s.length ≤ c3
  k4 : r.length ≤ c4
  k5 : h.length ≤ c5
  S1 : Apps W base W.heap.size A1 f
  S2 : Apps W base W.heap.size A2 n
  S3 : Msgs W base W.heap.size A3 s
  S4 : Msgs W base W.heap.size A4 r
  S5 : Msgs W base W.heap.size A5 h
section
variable {W W' : World} {base b0 : Nat} {A1 : Option Addr} {c1 : Nat} {f : List App} {A2 : Option Addr} {c2 : Nat} {n : List App} {A3 : Option Addr} {c3 : Nat} {s : List Msg} {A4 : Option Addr} {c4 : Nat} {r : List Msg} {A5 : Option Addr} {c5 : Nat} {h : List Msg}
theorem ED.below (o : ED base W A1 c1 f A2 c2 n A3 c3 s A4 c4 r A5 c5 h) (hb : Below W.heap.size W W') : ED base W' A1 c1 f A2 c2 n A3 c3 s A4 c4 r A5 c5 h := by
  have z := hb.size
  exact ⟨o.ef, o.nl, o.k3, o.k4, o.k5, (o.S1.below hb).mono (Nat.le_refl _) z (Nat.le_refl _), (o.S2.below hb).mono (Nat.le_refl _) z (Nat.le_refl _), (o.S3.below hb).mono (Nat.le_refl _) z (Nat.le_refl _), (o.S4.below hb).mono (Nat.le_refl _) z (Nat.le_refl _), (o.S5.below hb).mono (Nat.le_refl _) z (Nat.le_refl _)⟩
theorem ED.fr {lo hi : Nat} (o : ED base W A1 c1 f A2 c2 n A3 c3 s A4 c4 r A5 c5 h) (hF : Fr lo hi W W') (hd : hi ≤ base) : ED base W' A1 c1 f A2 c2 n A3 c3 s A4 c4 r A5 c5 h := by
  have z := hF.size
  exact ⟨o.ef, o.nl, o.k3, o.k4, o.k5, (o.S1.fr hF (.inr hd)).mono (Nat.le_refl _) z (Nat.le_refl _), (o.S2.fr hF (.inr hd)).mono (Nat.le_refl _) z (Nat.le_refl _), (o.S3.fr hF (.inr hd)).mono (Nat.le_refl _) z (Nat.le_refl _), (o.S4.fr hF (.inr hd)).mono (Nat.le_refl _) z (Nat.le_refl _), (o.S5.fr hF (.inr hd)).mono (Nat.le_refl _) z (Nat.le_refl _)⟩
theorem ED.lift (o : ED base W A1 c1 f A2 c2 n A3 c3 s A4 c4 r A5 c5 h) (hb : b0 ≤ base) : ED b0 W A1 c1 f A2 c2 n A3 c3 s A4 c4 r A5 c5 h :=
  ⟨o.ef, o.nl, o.k3, o.k4, o.k5, o.S1.mono hb (Nat.le_refl _) (Nat.le_refl _), o.S2.mono hb (Nat.le_refl _) (Nat.le_refl _), o.S3.mono hb (Nat.le_refl _) (Nat.le_refl _), o.S4.mono hb (Nat.le_refl _) (Nat.le_refl _), o.S5.mono hb (Nat.le_refl _) (Nat.le_refl _)⟩
theorem EF.ea {L M : Nat} (o : EF L M f n s r h) (hL : L ≤ 12) (hM : M ≤ 100) (k3 : s.length ≤ c3) (k4 : r.length ≤ c4) (k5 : h.length ≤ c5) (S1 : Apps W 0 W.heap.size A1 f) (S2 : Apps W 0 W.heap.size A2 n) (S3 : Msgs W 0 W.heap.size A3 s) (S4 : Msgs W 0 W.heap.size A4 r) (S5 : Msgs W 0 W.heap.size A5 h) : EA W A1 c1 f A2 c2 n A3 c3 s A4 c4 r A5 c5 h := by
  obtain ⟨⟨a1, a2⟩, ⟨a3, a4⟩, ⟨a5, a6⟩, ⟨a7, a8⟩, a9, a0⟩ := o
  exact ⟨by omega, fun y hy => by have := a2 y hy; omega, S1, by omega, fun y hy => by have := a4 y hy; omega, S2, by omega, a6.big, S3, k3, by omega, a8.big, S4, k4, by omega, a0.big, S5, k5⟩
theorem ED.ea (o : ED base W A1 c1 f A2 c2 n A3 c3 s A4 c4 r A5 c5 h) : EA W A1 c1 f A2 c2 n A3 c3 s A4 c4 r A5 c5 h := o.ef.ea o.nl (Nat.le_refl _) o.k3 o.k4 o.k5 o.S1.all o.S2.all o.S3.all o.S4.all o.S5.all
theorem EB.ed {bs : List Nat} {L M : Nat} (o : EB W base bs A1 f A2 n A3 c3 s A4 c4 r A5 c5 h) (e : EF L M f n s r h) (hL : L ≤ 12) (hM : M ≤ 100) : ED base W A1 c1 f A2 c2 n A3 c3 s A4 c4 r A5 c5 h := by
  obtain ⟨l1, h1, l2, h2, S1, S2, B1, B2, d, O, u, x⟩ := o
  have hn := e.2.1.1
  exact ⟨⟨e.1, ⟨rfl, e.2.1.2⟩, (e.more hM).2.2⟩, by omega, O.o1.cap, O.o2.cap, O.o3.cap, S1.mono B1.1 B1.2.2 (Nat.le_refl _), S2.mono B2.1 B2.2.2 (Nat.le_refl _), O.o1.sl Msg.len, O.o2.sl Msg.len, O.o3.sl Msg.len⟩
theorem EB.ea {bs : List Nat} {L M : Nat} (o : EB W base bs A1 f A2 n A3 c3 s A4 c4 r A5 c5 h) (e : EF L M f n s r h) (hL : L ≤ 12) (hM : M ≤ 100) : EA W A1 c1 f A2 c2 n A3 c3 s A4 c4 r A5 c5 h := (o.ed e hL hM).ea
end
theorem set_names {n : List App} {k : Nat} {x : App} {m : Nat} (h : ∀ y ∈ n, y.nm.size ≤ m) (hx : x.nm.size ≤ m) : ∀ y ∈ n.set k x, y.nm.size ≤ m := fun y hy => by
  rcases List.mem_or_eq_of_mem_set hy with h1 | h1
  · exact h y h1
  · rw [h1]; exact hx
/-- A told state leaves lists of the same kind. -/
theorem tel_small {L M : Nat} {f n : List App} {s r h : List Msg} {nm : ByteArray} {v : Int} (g : (telT f n s r h nm v).2 = true) (e : EF L M f n s r h) (hnm : nm.size ≤ 7) : ∃ n' s', telT f n s r h nm v = ((f, n', s', r, h), true) ∧ EF L (M + 1) f n' s' r h := by
  unfold telT at g
  split at g
  · rename_i q
    obtain ⟨q1, q2, q3⟩ := q
    have hs := snd_ok q3
    have hst := stOk_in (chgT_snd q2).2.2
    have hz : (stT v).size ≤ 13 := by
      rcases (by omega : v = 0 ∨ v = 1 ∨ v = 2 ∨ v = 3 ∨ v = 4 ∨ v = 5) with rfl | rfl | rfl | rfl | rfl | rfl <;> decide +kernel
    refine ⟨(chgT n nm v).1, s ++ [⟨nm, (cntM s nm : Int) + 1, stT v⟩], by rw [telT_yes q1 q2 q3, hs], e.1, ?_, ⟨by rw [List.length_append]; have := e.2.2.1.1; simp; omega, e.2.2.1.2.app (sm.one ⟨hnm, hz⟩)⟩, ⟨by have := e.2.2.2.1.1; omega, e.2.2.2.1.2⟩, ⟨by have := e.2.2.2.2.1; omega, e.2.2.2.2.2⟩⟩
    unfold chgT at q2 ⊢
    split at q2
    · rename_i k
      rw [if_pos k]
      split at q2
      · rename_i a ha
        split at q2
        · rename_i k2
          simp only [k2, if_true]
          exact ⟨by rw [List.length_set]; exact e.2.1.1, set_names e.2.1.2 (e.2.1.2 a (List.mem_of_getElem? ha))⟩
        · cases q2
      · cases q2
    · cases q2
  · cases g
/-- Ends being drawn: their box, their lists, the result's box, the cursor. -/
structure EQ (w : World) (pb bx : Nat) (A : Option Addr) (c : Nat) (l : List Int) (N : Nat) (A1 : Option Addr) (c1 : Nat) (f : List App) (A2 : Option Addr) (c2 : Nat) (n : List App) (A3 : Option Addr) (c3 : Nat) (s : List Msg) (A4 : Option Addr) (c4 : Nat) (r : List Msg) (A5 : Option Addr) (c5 : Nat) (h : List Msg) (W : World) : Prop where
  x : BN bx [.slice A1 f.length c1, .slice A2 n.length c2, .slice A3 s.length c3, .slice A4 r.length c4, .slice A5 h.length c5] W
  e : EB W (w.heap.size + 1) [bx] A1 f A2 n A3 c3 s A4 c4 r A5 c5 h
  z : BN w.heap.size [.slice none 0 0, .slice none 0 0, .slice none 0 0, .slice none 0 0, .slice none 0 0] W
  cur : Cur pb A c l N W
  fr : Fr pb (pb + 1) w W
  hx : w.heap.size + 1 ≤ bx
/-- The same at the end: lists that can be read. -/
structure EZ (w : World) (pb bx : Nat) (A : Option Addr) (c : Nat) (l : List Int) (N : Nat) (A1 : Option Addr) (c1 : Nat) (f : List App) (A2 : Option Addr) (c2 : Nat) (n : List App) (A3 : Option Addr) (c3 : Nat) (s : List Msg) (A4 : Option Addr) (c4 : Nat) (r : List Msg) (A5 : Option Addr) (c5 : Nat) (h : List Msg) (W : World) : Prop where
  x : BN bx [.slice A1 f.length c1, .slice A2 n.length c2, .slice A3 s.length c3, .slice A4 r.length c4, .slice A5 h.length c5] W
  e : ED (w.heap.size + 1) W A1 c1 f A2 c2 n A3 c3 s A4 c4 r A5 c5 h
  z : BN w.heap.size [.slice none 0 0, .slice none 0 0, .slice none 0 0, .slice none 0 0, .slice none 0 0] W
  cur : Cur pb A c l N W
  fr : Fr pb (pb + 1) w W
section
variable {w W W' : World} {pb bx c N M : Nat} {A : Option Addr} {l : List Int} {A1 : Option Addr} {c1 : Nat} {f : List App} {A2 : Option Addr} {c2 : Nat} {n : List App} {A3 : Option Addr} {c3 : Nat} {s : List Msg} {A4 : Option Addr} {c4 : Nat} {r : List Msg} {A5 : Option Addr} {c5 : Nat} {h : List Msg}
theorem EQ.lt (q : EQ w pb bx A c l N A1 c1 f A2 c2 n A3 c3 s A4 c4 r A5 c5 h W) : bx < W.heap.size := q.x.lt (by simp)
theorem EQ.step (q : EQ w pb bx A c l N A1 c1 f A2 c2 n A3 c3 s A4 c4 r A5 c5 h W) (hp : pb < w.heap.size) (hF : Fr pb (pb + 1) W W') (hC : Cur pb A c l M W') : EQ w pb bx A c l M A1 c1 f A2 c2 n A3 c3 s A4 c4 r A5 c5 h W' :=
  ⟨q.x.fr hF (by simp) (by have := q.hx; omega), q.e.fr hF (by omega), q.z.fr hF (by simp) (by omega), hC, q.fr.trans hF, q.hx⟩
theorem EQ.below (q : EQ w pb bx A c l N A1 c1 f A2 c2 n A3 c3 s A4 c4 r A5 c5 h W) (hb : Below W.heap.size W W') : EQ w pb bx A c l N A1 c1 f A2 c2 n A3 c3 s A4 c4 r A5 c5 h W' := ⟨q.x.below (by simp) hb, q.e.below hb, q.z.below (by simp) hb, q.cur.below hb, q.fr.on hb, q.hx⟩
theorem EQ.alloc (q : EQ w pb bx A c l N A1 c1 f A2 c2 n A3 c3 s A4 c4 r A5 c5 h W) (o : Obj) : EQ w pb bx A c l N A1 c1 f A2 c2 n A3 c3 s A4 c4 r A5 c5 h (W.alloc o) := q.below ((Below.refl _ _).alloc (Nat.le_refl _) o)
theorem EQ.drew (q : EQ w pb bx A c l N A1 c1 f A2 c2 n A3 c3 s A4 c4 r A5 c5 h W) : EQ w pb bx A c l N A1 c1 f A2 c2 n A3 c3 s A4 c4 r A5 c5 h W.drew := q.below (Below.refl _ _).drew
theorem EQ.more (q : EQ w pb bx A c l N A1 c1 f A2 c2 n A3 c3 s A4 c4 r A5 c5 h W) (hM : N ≤ M) : EQ w pb bx A c l M A1 c1 f A2 c2 n A3 c3 s A4 c4 r A5 c5 h W := ⟨q.x, q.e, q.z, q.cur.more hM, q.fr, q.hx⟩
/-- Blocks from the result's on changed, but not the ends' own. -/
theorem EQ.side {g : Nat} (q : EQ w pb bx A c l N A1 c1 f A2 c2 n A3 c3 s A4 c4 r A5 c5 h W) (hp : pb < w.heap.size) (hg : w.heap.size + 1 ≤ g) (hb : bx ≠ g) (e : EB W (w.heap.size + 1) [g, bx] A1 f A2 n A3 c3 s A4 c4 r A5 c5 h) (hF : Fr g (g + 1) W W') : EQ w pb bx A c l N A1 c1 f A2 c2 n A3 c3 s A4 c4 r A5 c5 h W' := by
  have hs := q.lt
  have hx := q.hx
  have hz := q.fr.size
  exact ⟨q.x.fr hF (by simp) (by omega), (e.box (g := g) (by simp) hF).sub (by simp), q.z.fr hF (by simp) (by omega), q.cur.upto (B := pb + 1) (Nat.lt_succ_self _) (hF.below (by omega) (by omega)), q.fr.moreN (hF.below (B := w.heap.size) (by omega) hz) (Nat.le_refl _), hx⟩
/-- The box takes other ends. -/
theorem EQ.put {D1 : Option Addr} {d1 : Nat} {f2 : List App} {D2 : Option Addr} {d2 : Nat} {n2 : List App} {D3 : Option Addr} {d3 : Nat} {s2 : List Msg} {D4 : Option Addr} {d4 : Nat} {r2 : List Msg} {D5 : Option Addr} {d5 : Nat} {h2 : List Msg} (q : EQ w pb bx A c l N A1 c1 f A2 c2 n A3 c3 s A4 c4 r A5 c5 h W) (hp : pb < w.heap.size) (e : EB W (w.heap.size + 1) [bx] D1 f2 D2 n2 D3 d3 s2 D4 d4 r2 D5 d5 h2) :
    EQ w pb bx A c l N D1 d1 f2 D2 d2 n2 D3 d3 s2 D4 d4 r2 D5 d5 h2 (((((W.setCell ⟨bx, 0, none⟩ (.slice D1 f2.length d1)).setCell ⟨bx, 1, none⟩ (.slice D2 n2.length d2)).setCell ⟨bx, 2, none⟩ (.slice D3 s2.length d3)).setCell ⟨bx, 3, none⟩ (.slice D4 r2.length d4)).setCell ⟨bx, 4, none⟩ (.slice D5 h2.length d5)) := by
  have hx := q.hx
  have hz := q.fr.size
  have hF := ((((((Fr.refl bx (bx + 1) W).setCell (p := ⟨bx, 0, none⟩) ⟨Nat.le_refl _, Nat.lt_succ_self _⟩ (.slice D1 f2.length d1)).setCell (p := ⟨bx, 1, none⟩) ⟨Nat.le_refl _, Nat.lt_succ_self _⟩ (.slice D2 n2.length d2)).setCell (p := ⟨bx, 2, none⟩) ⟨Nat.le_refl _, Nat.lt_succ_self _⟩ (.slice D3 s2.length d3)).setCell (p := ⟨bx, 3, none⟩) ⟨Nat.le_refl _, Nat.lt_succ_self _⟩ (.slice D4 r2.length d4)).setCell (p := ⟨bx, 4, none⟩) ⟨Nat.le_refl _, Nat.lt_succ_self _⟩ (.slice D5 h2.length d5))
  exact ⟨(((((q.x.put (i := 0) rfl (.slice D1 f2.length d1)).put (i := 1) rfl (.slice D2 n2.length d2)).put (i := 2) rfl (.slice D3 s2.length d3)).put (i := 3) rfl (.slice D4 r2.length d4)).put (i := 4) rfl (.slice D5 h2.length d5)), e.box (g := bx) (by simp) hF, q.z.fr hF (by simp) (by omega), q.cur.upto (B := pb + 1) (Nat.lt_succ_self _) (hF.below (by omega) (by omega)), q.fr.moreN (hF.below (B := w.heap.size) (by omega) hz) (Nat.le_refl _), hx⟩
/-- The box takes another channel. -/
theorem EQ.putC {D3 : Option Addr} {d3 : Nat} {s2 : List Msg} {D4 : Option Addr} {d4 : Nat} {r2 : List Msg} {D5 : Option Addr} {d5 : Nat} {h2 : List Msg} (q : EQ w pb bx A c l N A1 c1 f A2 c2 n A3 c3 s A4 c4 r A5 c5 h W) (hp : pb < w.heap.size) (hb : Below W.heap.size W W') (hc : OwnC W' W.heap.size D3 d3 s2 D4 d4 r2 D5 d5 h2) :
    EQ w pb bx A c l N A1 c1 f A2 c2 n D3 d3 s2 D4 d4 r2 D5 d5 h2 (((W'.setCell ⟨bx, 2, none⟩ (.slice D3 s2.length d3)).setCell ⟨bx, 3, none⟩ (.slice D4 r2.length d4)).setCell ⟨bx, 4, none⟩ (.slice D5 h2.length d5)) := by
  have hx := q.hx
  have hz := q.fr.size
  have hl := q.lt
  have e := q.e.chan hb hc (by omega) (by simpa using hl)
  have q' := q.below hb
  have hz' := hb.size
  have hF := ((((Fr.refl bx (bx + 1) W').setCell (p := ⟨bx, 2, none⟩) ⟨Nat.le_refl _, Nat.lt_succ_self _⟩ (.slice D3 s2.length d3)).setCell (p := ⟨bx, 3, none⟩) ⟨Nat.le_refl _, Nat.lt_succ_self _⟩ (.slice D4 r2.length d4)).setCell (p := ⟨bx, 4, none⟩) ⟨Nat.le_refl _, Nat.lt_succ_self _⟩ (.slice D5 h2.length d5))
  exact ⟨(((q'.x.put (i := 2) rfl (.slice D3 s2.length d3)).put (i := 3) rfl (.slice D4 r2.length d4)).put (i := 4) rfl (.slice D5 h2.length d5)), e.box (g := bx) (by simp) hF, q'.z.fr hF (by simp) (by omega), q'.cur.upto (B := pb + 1) (Nat.lt_succ_self _) (hF.below (by omega) (by omega)), q'.fr.moreN (hF.below (B := w.heap.size) (by omega) (by omega)) (Nat.le_refl _), hx⟩
theorem EQ.ez {L K : Nat} (q : EQ w pb bx A c l N A1 c1 f A2 c2 n A3 c3 s A4 c4 r A5 c5 h W) (e : EF L K f n s r h) (hL : L ≤ 12) (hK : K ≤ 100) : EZ w pb bx A c l N A1 c1 f A2 c2 n A3 c3 s A4 c4 r A5 c5 h W := ⟨q.x, q.e.ed e hL hK, q.z, q.cur, q.fr⟩
/-- An appliance's state now is changed. -/
theorem EQ.now {L K ab ao k : Nat} {x : App} {v : Int} (q : EQ w pb bx A c l N A1 c1 f (some ⟨ab, ao, none⟩) c2 n A3 c3 s A4 c4 r A5 c5 h W) (e : EF L K f n s r h) (hL : L ≤ 12) (hK : K ≤ 100) (hp : pb < w.heap.size) (hx : n[k]? = some x) :
    EZ w pb bx A c l N A1 c1 f (some ⟨ab, ao, none⟩) c2 (n.set k (withSt x v)) A3 c3 s A4 c4 r A5 c5 h (W.setCell ⟨ab, ao + k * 5 + 4, none⟩ (.int .i64 v)) := by
  obtain ⟨l1, h1, l2, h2, S1, S2, B1, B2, d, O, ⟨u3, u4, u5⟩, y⟩ := q.e
  obtain ⟨b', o', e', hb1, hb2, _, _⟩ := S2.at_ hx
  injection e' with e'
  injection e' with e1 e2
  subst e1 e2
  have hF : Fr ab (ab + 1) W (W.setCell ⟨ab, ao + k * 5 + 4, none⟩ (.int .i64 v)) := (Fr.refl ab (ab + 1) W).setCell ⟨Nat.le_refl _, Nat.lt_succ_self _⟩ _
  have hbx := (y bx (by simp)).1.2
  have hz := q.fr.size
  have hzF := hF.size
  have key : ∀ {Ax : Option Addr}, Out Ax l1 h1 l2 h2 → Dis Ax (some ⟨ab, 0, none⟩) := fun u a a' e1 e2 z => by
    injection e2 with e2
    have := (u a e1).2
    rw [z, ← e2] at this
    simp only at this
    omega
  have O' := O.apart hF (key u3) (key u4) (key u5)
  have s2' : Apps (W.setCell ⟨ab, ao + k * 5 + 4, none⟩ (.int .i64 v)) l2 h2 (some ⟨ab, ao, none⟩) (n.set k (withSt x v)) := Sl.set1 (j := 4) S2 hx App.len (by omega) rfl
  have hl : (n.set k (withSt x v)).length = L := by rw [List.length_set]; exact e.2.1.1
  have X := q.x.fr hF (by simp) (by omega)
  have hln : (n.set k (withSt x v)).length = n.length := List.length_set
  rw [← hln] at X
  refine ⟨X, ⟨⟨e.1, ⟨rfl, set_names e.2.1.2 (e.2.1.2 x (List.mem_of_getElem? hx))⟩, (e.more hK).2.2⟩, by omega, O'.o1.cap, O'.o2.cap, O'.o3.cap, (S1.fr hF (by omega)).mono B1.1 (by omega) (Nat.le_refl _), s2'.mono B2.1 (by omega) (Nat.le_refl _), O'.o1.sl Msg.len, O'.o2.sl Msg.len, O'.o3.sl Msg.len⟩, q.z.fr hF (by simp) (by omega), q.cur.upto (B := pb + 1) (Nat.lt_succ_self _) (hF.below (by omega) (by omega)), q.fr.moreN (hF.below (B := w.heap.size) (by omega) hz) (Nat.le_refl _)⟩
/-- A message is put behind those sent. -/
theorem EQ.app {L K : Nat} {U : World} {D : Option Addr} {k : Nat} {x : Msg} {S : List Msg} (q : EQ w pb bx A c l N A1 c1 f A2 c2 n A3 c3 s A4 c4 r A5 c5 h W) (e : EF L K f n s r h) (hL : L ≤ 12) (hK : K ≤ 99) (hp : pb < w.heap.size) (hx : x.f.size ≤ 7 ∧ x.b.size ≤ 13) (hS : S = s ++ [x]) (hO : Own Msg.cells 3 33 U (w.heap.size + 1) D k S) (hb : Below (w.heap.size + 1) W U) (hk : But A3 W U) (hd : ∀ A, Dis A3 A → (∀ a, A = some a → a.block < W.heap.size) → Dis D A) :
    EZ w pb bx A c l N A1 c1 f A2 c2 n D k S A4 c4 r A5 c5 h (U.setCell ⟨bx, 2, none⟩ (.slice D S.length k)) := by
  obtain ⟨l1, h1, l2, h2, S1, S2, B1, B2, d, O, ⟨u3, u4, u5⟩, y⟩ := q.e
  obtain ⟨⟨y1, y2⟩, y3, y4, y5⟩ := y bx (by simp)
  have hl := q.lt
  have hz := q.fr.size
  have hxx := q.hx
  have hzU := hb.size
  have O' := O.push1 hO hk hd
  have y3' : Dis D (some ⟨bx, 0, none⟩) := hd _ y3 (fun a ea => by injection ea with ea; subst ea; exact hl)
  have t1 : Apps U l1 h1 A1 f := S1.keep (fun b hb1 hb2 => hk b (by omega) (fun a ea eb => by have := (u3 a ea).1; omega)) hzU
  have t2 : Apps U l2 h2 A2 n := S2.keep (fun b hb1 hb2 => hk b (by omega) (fun a ea eb => by have := (u3 a ea).2; omega)) hzU
  have hF : Fr bx (bx + 1) U (U.setCell ⟨bx, 2, none⟩ (.slice D S.length k)) := (Fr.refl bx (bx + 1) U).setCell ⟨Nat.le_refl _, Nat.lt_succ_self _⟩ _
  have hzF := hF.size
  have O2 := O'.apart hF y3' y4 y5
  have X := q.x.same (hk bx hl (fun a ea eb => y3 a _ ea rfl eb))
  have hls : S.length ≤ K + 1 := by rw [hS, List.length_append]; have := e.2.2.1.1; simp; omega
  have hsS : sm S := by rw [hS]; exact e.2.2.1.2.app (sm.one hx)
  refine ⟨(X.put (i := 2) rfl _), ⟨⟨e.1, ⟨rfl, e.2.1.2⟩, ⟨by omega, hsS⟩, ⟨by have := e.2.2.2.1.1; omega, e.2.2.2.1.2⟩, ⟨by have := e.2.2.2.2.1; omega, e.2.2.2.2.2⟩⟩, by have := e.2.1.1; omega, O2.o1.cap, O2.o2.cap, O2.o3.cap, (t1.fr hF (by omega)).mono B1.1 (by omega) (Nat.le_refl _), (t2.fr hF (by omega)).mono B2.1 (by omega) (Nat.le_refl _), O2.o1.sl Msg.len, O2.o2.sl Msg.len, O2.o3.sl Msg.len⟩, (q.z.upto (B := w.heap.size + 1) (Nat.lt_succ_self _) hb).fr hF (by simp) (by omega), (q.cur.upto (B := w.heap.size + 1) (by omega) hb).upto (B := pb + 1) (Nat.lt_succ_self _) (hF.below (by omega) (by omega)), (q.fr.moreN (hb.mono (by omega)) (Nat.le_refl _)).moreN (hF.below (B := w.heap.size) (by omega) (by omega)) (Nat.le_refl _)⟩
/-- The box takes another first fleet. -/
theorem EQ.first {L K : Nat} {D : Option Addr} {k : Nat} {F : List App} (q : EQ w pb bx A c l N A1 c1 f A2 c2 n A3 c3 s A4 c4 r A5 c5 h W) (e : EF L K f n s r h) (hL : L ≤ 12) (hK : K ≤ 100) (hp : pb < w.heap.size) (hF1 : Fr pb (pb + 1) W W') (hC : Cur pb A c l M W') (hO : Own App.cells 5 73 W' W.heap.size D k F) (hFl : F.length ≤ 12) (hFm : ∀ y ∈ F, y.nm.size ≤ 7) :
    EZ w pb bx A c l M D k F A2 c2 n A3 c3 s A4 c4 r A5 c5 h (W'.setCell ⟨bx, 0, none⟩ (.slice D F.length k)) := by
  have hl := q.lt
  have q' := q.step hp hF1 hC
  have hl' := q'.lt
  have hF : Fr bx (bx + 1) W' (W'.setCell ⟨bx, 0, none⟩ (.slice D F.length k)) := (Fr.refl bx (bx + 1) W').setCell ⟨Nat.le_refl _, Nat.lt_succ_self _⟩ _
  have hzF := hF.size
  have hx := q.hx
  have hz := q'.fr.size
  have e2 : ED (w.heap.size + 1) (W'.setCell ⟨bx, 0, none⟩ (.slice D F.length k)) A1 c1 f A2 c2 n A3 c3 s A4 c4 r A5 c5 h := (q'.e.box (g := bx) (by simp) hF).ed e hL hK
  have S := ((hO.sl App.len).fr hF (by omega)).mono (lo' := w.heap.size + 1) (hi' := (W'.setCell ⟨bx, 0, none⟩ (.slice D F.length k)).heap.size) (by have := q.fr.size; omega) (by omega) (Nat.le_refl _)
  exact ⟨q'.x.put (i := 0) rfl _, ⟨⟨⟨hFl, hFm⟩, e2.ef.2⟩, e2.nl, e2.k3, e2.k4, e2.k5, S, e2.S2, e2.S3, e2.S4, e2.S5⟩, q'.z.fr hF (by simp) (by omega), q'.cur.upto (B := pb + 1) (Nat.lt_succ_self _) (hF.below (by omega) (by omega)), q'.fr.moreN (hF.below (B := w.heap.size) (by omega) hz) (Nat.le_refl _)⟩
/-- The result's box takes the ends. -/
theorem EZ.fin (q : EZ w pb bx A c l N A1 c1 f A2 c2 n A3 c3 s A4 c4 r A5 c5 h W) (hp : pb < w.heap.size) : BN w.heap.size [.slice A1 f.length c1, .slice A2 n.length c2, .slice A3 s.length c3, .slice A4 r.length c4, .slice A5 h.length c5] (((((W.setCell ⟨w.heap.size, 0, none⟩ (.slice A1 f.length c1)).setCell ⟨w.heap.size, 1, none⟩ (.slice A2 n.length c2)).setCell ⟨w.heap.size, 2, none⟩ (.slice A3 s.length c3)).setCell ⟨w.heap.size, 3, none⟩ (.slice A4 r.length c4)).setCell ⟨w.heap.size, 4, none⟩ (.slice A5 h.length c5)) ∧ ED w.heap.size (((((W.setCell ⟨w.heap.size, 0, none⟩ (.slice A1 f.length c1)).setCell ⟨w.heap.size, 1, none⟩ (.slice A2 n.length c2)).setCell ⟨w.heap.size, 2, none⟩ (.slice A3 s.length c3)).setCell ⟨w.heap.size, 3, none⟩ (.slice A4 r.length c4)).setCell ⟨w.heap.size, 4, none⟩ (.slice A5 h.length c5)) A1 c1 f A2 c2 n A3 c3 s A4 c4 r A5 c5 h ∧ Cur pb A c l N (((((W.setCell ⟨w.heap.size, 0, none⟩ (.slice A1 f.length c1)).setCell ⟨w.heap.size, 1, none⟩ (.slice A2 n.length c2)).setCell ⟨w.heap.size, 2, none⟩ (.slice A3 s.length c3)).setCell ⟨w.heap.size, 3, none⟩ (.slice A4 r.length c4)).setCell ⟨w.heap.size, 4, none⟩ (.slice A5 h.length c5)) ∧ Fr pb (pb + 1) w (((((W.setCell ⟨w.heap.size, 0, none⟩ (.slice A1 f.length c1)).setCell ⟨w.heap.size, 1, none⟩ (.slice A2 n.length c2)).setCell ⟨w.heap.size, 2, none⟩ (.slice A3 s.length c3)).setCell ⟨w.heap.size, 3, none⟩ (.slice A4 r.length c4)).setCell ⟨w.heap.size, 4, none⟩ (.slice A5 h.length c5)) := by
  have hF := ((((((Fr.refl w.heap.size (w.heap.size + 1) W).setCell (p := ⟨w.heap.size, 0, none⟩) ⟨Nat.le_refl _, Nat.lt_succ_self _⟩ (.slice A1 f.length c1)).setCell (p := ⟨w.heap.size, 1, none⟩) ⟨Nat.le_refl _, Nat.lt_succ_self _⟩ (.slice A2 n.length c2)).setCell (p := ⟨w.heap.size, 2, none⟩) ⟨Nat.le_refl _, Nat.lt_succ_self _⟩ (.slice A3 s.length c3)).setCell (p := ⟨w.heap.size, 3, none⟩) ⟨Nat.le_refl _, Nat.lt_succ_self _⟩ (.slice A4 r.length c4)).setCell (p := ⟨w.heap.size, 4, none⟩) ⟨Nat.le_refl _, Nat.lt_succ_self _⟩ (.slice A5 h.length c5))
  have hz := q.fr.size
  exact ⟨(((((q.z.put (i := 0) rfl (.slice A1 f.length c1)).put (i := 1) rfl (.slice A2 n.length c2)).put (i := 2) rfl (.slice A3 s.length c3)).put (i := 3) rfl (.slice A4 r.length c4)).put (i := 4) rfl (.slice A5 h.length c5)), (q.e.fr hF (Nat.le_refl _)).lift (by omega), q.cur.upto (B := pb + 1) (Nat.lt_succ_self _) (hF.below (by omega) (by omega)), q.fr.moreN (hF.below (B := w.heap.size) (by omega) hz) (Nat.le_refl _)⟩
end
/-- A state told or not: what the call leaves in the box pn. -/
def TelR (w : World) (bx pn L M : Nat) (b : Bool) (W : World) : Prop := b = true → ∃ (A1 : Option Addr) (c1 : Nat) (f : List App) (A2 : Option Addr) (c2 : Nat) (n : List App) (A3 : Option Addr) (c3 : Nat) (s : List Msg) (A4 : Option Addr) (c4 : Nat) (r : List Msg) (A5 : Option Addr) (c5 : Nat) (h : List Msg), EF L M f n s r h ∧ EB W (w.heap.size + 1) [bx] A1 f A2 n A3 c3 s A4 c4 r A5 c5 h ∧ BN pn [.slice A1 f.length c1, .slice A2 n.length c2, .slice A3 s.length c3, .slice A4 r.length c4, .slice A5 h.length c5] W
set_option maxRecDepth 100000 in
set_option maxHeartbeats 40000000 in
theorem ends_any (pb : Nat) (A : Option Addr) (c : Nat) (l : List Int) (N : Nat) (w : World) (hC : Cur pb A c l N w) (hN : N ≤ 500000000000) :
    Calls Tryz.prog 95 #[.pointer (some ⟨pb, 0, none⟩)] w (fun e w' => ∃ (A1 : Option Addr) (c1 : Nat) (f : List App) (A2 : Option Addr) (c2 : Nat) (n : List App) (A3 : Option Addr) (c3 : Nat) (s : List Msg) (A4 : Option Addr) (c4 : Nat) (r : List Msg) (A5 : Option Addr) (c5 : Nat) (h : List Msg), e = .returned (.agg #[.slice A1 f.length c1, .slice A2 n.length c2, .slice A3 s.length c3, .slice A4 r.length c4, .slice A5 h.length c5]) ∧ ED w.heap.size w' A1 c1 f A2 c2 n A3 c3 s A4 c4 r A5 c5 h ∧ Cur pb A c l (N + 700) w' ∧ Fr pb (pb + 1) w w') := by
  obtain ⟨i0, hi0, hv0, hv1, hv2⟩ := info_parts Msg.info
  have hpb := hC.lt
  have hC0 := hC.alloc (.cells #[.slice none 0 0, .slice none 0 0, .slice none 0 0, .slice none 0 0, .slice none 0 0] 52)
  have hR := BN.new w #[.slice none 0 0, .slice none 0 0, .slice none 0 0, .slice none 0 0, .slice none 0 0] 52 _ rfl
  have hF := (Fr.refl pb (pb + 1) w).alloc (.cells #[.slice none 0 0, .slice none 0 0, .slice none 0 0, .slice none 0 0, .slice none 0 0] 52)
  have hz0 : (w.alloc (.cells #[.slice none 0 0, .slice none 0 0, .slice none 0 0, .slice none 0 0, .slice none 0 0] 52)).heap.size = w.heap.size + 1 := by simp
  clear hC
  go_enter Tryz.func95, Tryz.ntmps95
  go_wp2_with fail
  refine (fleet_any pb A c l N 4 _ hC0 (by omega) (by omega)).mono ?_
  rintro e w1 ⟨B, d, L, rfl, hL12, hLm, hO, hC1, hFn⟩
  replace hR := hR.fr hFn (by simp) (by omega)
  replace hF := hF.trans hFn
  have hz1 := hFn.size
  rw [hz0] at hz1
  have hO1 := (hO.lift (b0 := w.heap.size + 1) (by omega)).sl App.len
  clear hFn hC0 hz0 hO
  have hL' : L.length ≤ 1048576 := by omega
  have hS1 : Apps w1 0 w1.heap.size B L := hO1.all
  by_cases g : fleetB L = true
  rotate_left
  · have cS := StartEnds_spec B d L w1 hL' (fun y hy => by have := hLm y hy; omega) hS1
    rw [show seT L = (([], []), false) from if_neg g] at cS
    go_wp2_with fail
    refine cS.mono ?_
    rintro e w2 ⟨A1, c1, A2, c2, m, rfl, _, _, _, _, hb⟩
    dsimp only
    have hb2 := hb.alloc (Nat.le_trans (Nat.le_refl _) hb.size) (.cells #[.slice A1 0 c1, .slice A2 0 c2, .slice none 0 0, .slice none 0 0, .slice none 0 0] 52)
    have hq : ED (w.heap.size + 1) (w2.alloc (.cells #[.slice A1 0 c1, .slice A2 0 c2, .slice none 0 0, .slice none 0 0, .slice none 0 0] 52)) B d L B d L none 0 [] none 0 [] none 0 [] := by
      have S := (hO1.below hb2).mono (lo' := w.heap.size + 1) (Nat.le_refl _) hb2.size (Nat.le_refl _)
      exact ⟨⟨⟨hL12, hLm⟩, ⟨rfl, hLm⟩, ⟨Nat.zero_le _, sm.nil⟩, ⟨Nat.zero_le _, sm.nil⟩, ⟨Nat.zero_le _, sm.nil⟩⟩, hL12, Nat.le_refl _, Nat.le_refl _, Nat.le_refl _, S, S, Sl.nil_, Sl.nil_, Sl.nil_⟩
    replace hR := hR.below (by simp) hb2
    replace hC1 := hC1.below hb2
    replace hF := hF.on hb2
    clear hb hb2 cS hO1 hS1
    go_upto_if 20 with fail
    generalize w2.alloc (.cells #[.slice A1 0 c1, .slice A2 0 c2, .slice none 0 0, .slice none 0 0, .slice none 0 0] 52) = U at hq hR hC1 hF ⊢
    have hF4 := ((((((Fr.refl w.heap.size (w.heap.size + 1) U).setCell (p := ⟨w.heap.size, 0, none⟩) ⟨Nat.le_refl _, Nat.lt_succ_self _⟩ (.slice B L.length d)).setCell (p := ⟨w.heap.size, 1, none⟩) ⟨Nat.le_refl _, Nat.lt_succ_self _⟩ (.slice B L.length d)).setCell (p := ⟨w.heap.size, 2, none⟩) ⟨Nat.le_refl _, Nat.lt_succ_self _⟩ (.slice none 0 0)).setCell (p := ⟨w.heap.size, 3, none⟩) ⟨Nat.le_refl _, Nat.lt_succ_self _⟩ (.slice none 0 0)).setCell (p := ⟨w.heap.size, 4, none⟩) ⟨Nat.le_refl _, Nat.lt_succ_self _⟩ (.slice none 0 0))
    have hR' := (((((hR.put (i := 0) rfl (.slice B L.length d)).put (i := 1) rfl (.slice B L.length d)).put (i := 2) rfl (.slice none 0 0)).put (i := 3) rfl (.slice none 0 0)).put (i := 4) rfl (.slice none 0 0))
    have hszz := hF.size
    have hE' := (hq.fr hF4 (Nat.le_refl _)).lift (b0 := w.heap.size) (by omega)
    have hC' := hC1.upto (B := pb + 1) (Nat.lt_succ_self _) (hF4.below (by omega) (by omega))
    have hF' := hF.moreN (hF4.below (B := w.heap.size) (by omega) hszz) (Nat.le_refl _)
    have r0 := (hR 0 _ rfl).1
    have g0 := (hR 0 _ rfl).2
    have z0 := (hR' 0 _ rfl).1
    have r1 := (hR 1 _ rfl).1
    have g1 := (hR 1 _ rfl).2
    have z1 := (hR' 1 _ rfl).1
    have r2 := (hR 2 _ rfl).1
    have g2 := (hR 2 _ rfl).2
    have z2 := (hR' 2 _ rfl).1
    have r3 := (hR 3 _ rfl).1
    have g3 := (hR 3 _ rfl).2
    have z3 := (hR' 3 _ rfl).1
    have r4 := (hR 4 _ rfl).1
    have g4 := (hR 4 _ rfl).2
    have z4 := (hR' 4 _ rfl).1
    clear hF4 hR hR' hq hF hC1
    go_wp2
    refine bodyPost_ret (by simp [results, Tryz.results95, go_sem, z0, z1, z2, z3, z4]; try rfl) rfl ?_
    exact ⟨B, d, L, B, d, L, none, 0, [], none, 0, [], none, 0, [], rfl, hE', hC'.more (by omega), hF'⟩
  have cS := StartEnds_spec B d L w1 hL' (fun y hy => by have := hLm y hy; omega) hS1
  rw [show seT L = ((L, L), true) from if_pos g] at cS
  go_wp2_with fail
  refine cS.mono ?_
  rintro e w2 ⟨A1, c1, A2, c2, m, rfl, hT1, hT2, hm1, hm2, hb⟩
  dsimp only
  have hEO : EO w2 w1.heap.size A1 L A2 L none 0 [] none 0 [] none 0 [] := ⟨w1.heap.size, m, m, w2.heap.size, hT1, hT2, ⟨Nat.le_refl _, hm1, hm2⟩, ⟨hm1, hm2, Nat.le_refl _⟩, .inl (Nat.le_refl _), OwnC.nil, Out.none_, Out.none_, Out.none_⟩
  have hE0 : EB w2 (w.heap.size + 1) [w2.heap.size] A1 L A2 L none 0 [] none 0 [] none 0 [] := EB.of hEO (by omega) (by simp)
  have q : EQ w pb w2.heap.size A c l (N + 300) A1 c1 L A2 c2 L none 0 [] none 0 [] none 0 [] (w2.alloc (.cells #[.slice A1 L.length c1, .slice A2 L.length c2, .slice none 0 0, .slice none 0 0, .slice none 0 0] 52)) := by
    have hba := (Below.refl w2.heap.size w2).alloc (Nat.le_refl _) (.cells #[.slice A1 L.length c1, .slice A2 L.length c2, .slice none 0 0, .slice none 0 0, .slice none 0 0] 52)
    exact ⟨BN.new w2 #[.slice A1 L.length c1, .slice A2 L.length c2, .slice none 0 0, .slice none 0 0, .slice none 0 0] 52 _ rfl, hE0.below hba, (hR.below (by simp) hb).below (by simp) hba, (hC1.below hb).below hba, (hF.on hb).on hba, by have := hb.size; omega⟩
  have hEF : EF L.length 0 L L [] [] [] := ⟨⟨hL12, hLm⟩, ⟨rfl, hLm⟩, ⟨Nat.zero_le _, sm.nil⟩, ⟨Nat.zero_le _, sm.nil⟩, ⟨Nat.zero_le _, sm.nil⟩⟩
  clear hE0 hEO hT1 hT2 hm1 hm2 hb hR hF hC1 cS hO1 hS1 g hLm hz1 hL'
  go_wp2_with fail
  generalize w2.heap.size = bx at q ⊢
  refine (pick_any pb A c l (N + 300) 8 _ q.cur (by omega) (by omega)).mono ?_
  rintro e w3 ⟨_, rfl, ⟨k1, rfl, hk1⟩, hC1, hFn⟩
  replace q := q.step hpb hFn hC1
  have hk1' : k1 ≤ 7 := by omega
  clear hFn hC1 hk1
  go_upto_block 0 with fail
  go_cut [6] from 7 to 83 (fun n_ wx => ∃ (k_ : Nat) (A1 : Option Addr) (c1 : Nat) (f : List App) (A2 : Option Addr) (c2 : Nat) (n : List App) (A3 : Option Addr) (c3 : Nat) (s : List Msg) (A4 : Option Addr) (c4 : Nat) (r : List Msg) (A5 : Option Addr) (c5 : Nat) (h : List Msg), n_ = .int .i64 k_ ∧ EF L.length 14 f n s r h ∧ EQ w pb bx A c l (N + 360) A1 c1 f A2 c2 n A3 c3 s A4 c4 r A5 c5 h wx)
  case first =>
    as_aux_lemma =>
    go_wp2_with fail
    go_loopw [6] (fun n_ wr => ∃ (k : Nat) (A1 : Option Addr) (c1 : Nat) (f : List App) (A2 : Option Addr) (c2 : Nat) (n : List App) (A3 : Option Addr) (c3 : Nat) (s : List Msg) (A4 : Option Addr) (c4 : Nat) (r : List Msg) (A5 : Option Addr) (c5 : Nat) (h : List Msg), n_ = .int .i64 k ∧ k ≤ 7 ∧ EF L.length (2 * (7 - k)) f n s r h ∧ EQ w pb bx A c l (N + 302 + 8 * (7 - k)) A1 c1 f A2 c2 n A3 c3 s A4 c4 r A5 c5 h wr) (fun n_ _ => (intOf n_).toNat)
    case atStart => exact ⟨k1, A1, c1, L, A2, c2, L, none, 0, [], none, 0, [], none, 0, [], rfl, hk1', hEF.more (by omega), q.more (by omega)⟩
    case round =>
      clear q hk1' hEF
      obtain ⟨k, A1, c1, f, A2, c2, n, A3, c3, s, A4, c4, r, A5, c5, h, rfl, hk, hEF, q⟩ := hrel
      by_cases hk0 : 0 < k ∧ 0 < L.length
      · obtain ⟨hk0, hL0⟩ := hk0
        have hk0' : (0 : Int) < k := by omega
        have hL0' : (0 : Int) < L.length := by omega
        obtain ⟨N0, hN0⟩ : ∃ N0, N0 = 302 + 8 * (7 - k) := ⟨_, rfl⟩
        have hN1 : N0 ≤ 358 := by omega
        replace q : EQ w pb bx A c l (N + N0) A1 c1 f A2 c2 n A3 c3 s A4 c4 r A5 c5 h wr := q.more (by omega)
        replace hN0 := Lib.hid hN0
        have hnl_ : n.length = L.length := hEF.2.1.1
        rw [← hnl_] at hL12
        obtain ⟨M, hM⟩ : ∃ M, M = 2 * (7 - k) := ⟨_, rfl⟩
        have hM7 : M + 2 * k ≤ 14 := by omega
        rw [← hM, ← hnl_] at hEF
        clear hM
        replace hnl_ := Lib.hid hnl_
        have b0 := (q.x 0 _ rfl).1
        have b1 := (q.x 1 _ rfl).1
        have b2 := (q.x 2 _ rfl).1
        have b3 := (q.x 3 _ rfl).1
        have b4 := (q.x 4 _ rfl).1
        go_wp2_with fail
        refine (pick_any pb A c l (N + N0) _ _ q.cur (by omega) (by omega)).mono ?_
        rintro e wA0 ⟨_, rfl, ⟨k2, rfl, hk2_⟩, hC1, hFn⟩
        have hk2 : k2 < n.length := by have := hnl_.out; omega
        replace q := q.step hpb hFn hC1
        clear hFn hC1 hk2_ b0 b1 b2 b3 b4
        obtain ⟨y, hy, hym⟩ := get_lt hk2
        obtain ⟨l1_, h1_, l2_, h2_, _, SS, _, BB2, _⟩ := id q.e
        obtain ⟨ab, ao, rfl, hab1, hab2, _, hf⟩ := SS.at_ hy
        have c0 : wA0.cell? ⟨ab, ao + k2 * 5, none⟩ = some (.string y.nm) := (hf 0 _ rfl).1
        have c4_ : wA0.cell? ⟨ab, ao + k2 * 5 + 4, none⟩ = some (.int .i64 y.st) := (hf 4 _ rfl).1
        have habp : pb < ab := by omega
        have hk2' : (k2 : Int) < n.length := by omega
        have hys := hEF.2.1.2 y hym
        clear hf SS hab1 hab2 BB2
        have b0 := (q.x 0 _ rfl).1
        have b1 := (q.x 1 _ rfl).1
        have b2 := (q.x 2 _ rfl).1
        have b3 := (q.x 3 _ rfl).1
        have b4 := (q.x 4 _ rfl).1
        have cN := apNext_any y.st
        have hNl := nextL_len y.st
        have hN0l : 0 < (nextL y.st).length := by unfold nextL; (repeat' split) <;> simp
        generalize nextL y.st = NL at cN hNl hN0l
        go_wp2_with fail
        refine (cN _).mono ?_
        rintro e wA ⟨NA, nc, rfl, hnS, hnc_, hb⟩
        have hnp : w.heap.size + 1 ≤ wA0.heap.size := by have := q.lt; have := q.hx; omega
        replace q := q.below hb
        have hnc := (World.cell?_of_block (hb.block ab (World.block_lt_of_cell? _ _ c0))).trans c0
        clear cN c0 c4_ b0 b1 b2 b3 b4
        obtain ⟨x0_, hx0_, _⟩ := get_lt hN0l
        obtain ⟨nb, no, rfl, _, _, _, _⟩ := hnS.at_ hx0_
        obtain ⟨nlo, hnlo⟩ : ∃ nlo, nlo = wA0.heap.size := ⟨_, rfl⟩
        obtain ⟨nhi, hnhi⟩ : ∃ nhi, nhi = wA.heap.size := ⟨_, rfl⟩
        have hnl : Ints wA nlo nhi (some ⟨nb, no, none⟩) NL := by rw [hnlo, hnhi]; exact hnS
        have hnlp : pb + 1 ≤ nlo := by omega
        have hnhs : nhi ≤ wA.heap.size := by omega
        clear hnS hnlo hnhi hb hnp
        go_upto_region 10 with fail
        go_cut [9, 10] from 26 to 83 (fun p qv wx => ∃ (pn : Nat) (dd : Bool), p = .pointer (some ⟨pn, 0, none⟩) ∧ qv = .bool dd ∧ EQ w pb bx A c l (N + N0 + 2 + 2) A1 c1 f (some ⟨ab, ao, none⟩) c2 n A3 c3 s A4 c4 r A5 c5 h wx ∧ TelR w bx pn n.length (M + 1) dd wx)
        case first =>
          as_aux_lemma =>
            have q0 := q.drew
            have hn_q0 : wA.drew.cell? ⟨ab, ao + k2 * 5, none⟩ = some (.string y.nm) := hnc
            have hl_q0 : Ints wA.drew nlo nhi (some ⟨nb, no, none⟩) NL := hnl
            refine wp_region_held_drew (S := (fun w' => w'.cell? ⟨bx, 0, none⟩ = some (.slice A1 f.length c1) ∧ w'.cell? ⟨bx, 1, none⟩ = some (.slice (some ⟨ab, ao, none⟩) n.length c2) ∧ w'.cell? ⟨bx, 2, none⟩ = some (.slice A3 s.length c3) ∧ w'.cell? ⟨bx, 3, none⟩ = some (.slice A4 r.length c4) ∧ w'.cell? ⟨bx, 4, none⟩ = some (.slice A5 h.length c5) ∧ w'.cell? ⟨ab, ao + k2 * 5, none⟩ = some (.string y.nm) ∧ Ints w' nlo nhi (some ⟨nb, no, none⟩) NL)) (by kernel_rfl) ⟨(q0.x 0 _ rfl).1, (q0.x 1 _ rfl).1, (q0.x 2 _ rfl).1, (q0.x 3 _ rfl).1, (q0.x 4 _ rfl).1, hn_q0, hl_q0⟩ (fun hHeld => ?_)
            clear q hnc hnl
            generalize wA.drew = V0 at q0 hn_q0 hl_q0 hHeld ⊢
            change wpAnyH _ _ _ _ _ 21 #[false, false, false, false, false, false, false, false, false, false, false, false, false, false, false, false, false, false, false, false, false] _ _
            refine wpAnyH_takeL (i := 0) (v := .agg #[.slice A1 f.length c1, .slice (some ⟨ab, ao, none⟩) n.length c2, .slice A3 s.length c3, .slice A4 r.length c4, .slice A5 h.length c5]) rfl (by kernel_rfl) (by kernel_rfl) (by kernel_rfl) (fun _ _ _ h => h) (Or.inl ⟨by rfl, fun w' hSw => by obtain ⟨z0, z1, z2, z3, z4, zn, zl⟩ := hSw; go_simp⟩) ⟨(q0.x 0 _ rfl).1, (q0.x 1 _ rfl).1, (q0.x 2 _ rfl).1, (q0.x 3 _ rfl).1, (q0.x 4 _ rfl).1, hn_q0, hl_q0⟩ ?_
            simp only [Act.put, List.setIfInBounds_toArray, List.set_cons_zero, List.set_cons_succ]
            refine wpAnyH_takeL (i := 1) (v := .pointer (some ⟨bx, 1, none⟩)) rfl (by kernel_rfl) (by kernel_rfl) (by kernel_rfl) (fun _ _ _ h => h) (Or.inl ⟨by rfl, fun w' hSw => by obtain ⟨z0, z1, z2, z3, z4, zn, zl⟩ := hSw; go_simp⟩) ⟨(q0.x 0 _ rfl).1, (q0.x 1 _ rfl).1, (q0.x 2 _ rfl).1, (q0.x 3 _ rfl).1, (q0.x 4 _ rfl).1, hn_q0, hl_q0⟩ ?_
            simp only [Act.put, List.setIfInBounds_toArray, List.set_cons_zero, List.set_cons_succ]
            refine wpAnyH_takeL (i := 2) (v := .slice (some ⟨ab, ao, none⟩) n.length c2) rfl (by kernel_rfl) (by kernel_rfl) (by kernel_rfl) (fun _ _ _ h => h) (Or.inl ⟨by rfl, fun w' hSw => by obtain ⟨z0, z1, z2, z3, z4, zn, zl⟩ := hSw; go_simp⟩) ⟨(q0.x 0 _ rfl).1, (q0.x 1 _ rfl).1, (q0.x 2 _ rfl).1, (q0.x 3 _ rfl).1, (q0.x 4 _ rfl).1, hn_q0, hl_q0⟩ ?_
            simp only [Act.put, List.setIfInBounds_toArray, List.set_cons_zero, List.set_cons_succ]
            refine wpAnyH_takeL (i := 3) (v := .int .i64 k2) rfl (by kernel_rfl) (by kernel_rfl) (by kernel_rfl) (fun _ _ _ h => h) (Or.inl ⟨by rfl, fun w' hSw => by obtain ⟨z0, z1, z2, z3, z4, zn, zl⟩ := hSw; go_simp⟩) ⟨(q0.x 0 _ rfl).1, (q0.x 1 _ rfl).1, (q0.x 2 _ rfl).1, (q0.x 3 _ rfl).1, (q0.x 4 _ rfl).1, hn_q0, hl_q0⟩ ?_
            simp only [Act.put, List.setIfInBounds_toArray, List.set_cons_zero, List.set_cons_succ]
            refine wpAnyH_takeL (i := 4) (v := .pointer (some ⟨ab, ao + k2 * 5, none⟩)) rfl (by kernel_rfl) (by kernel_rfl) (by kernel_rfl) (fun _ _ _ h => h) (Or.inl ⟨by rfl, fun w' hSw => by obtain ⟨z0, z1, z2, z3, z4, zn, zl⟩ := hSw; go_simp⟩) ⟨(q0.x 0 _ rfl).1, (q0.x 1 _ rfl).1, (q0.x 2 _ rfl).1, (q0.x 3 _ rfl).1, (q0.x 4 _ rfl).1, hn_q0, hl_q0⟩ ?_
            simp only [Act.put, List.setIfInBounds_toArray, List.set_cons_zero, List.set_cons_succ]
            refine wpAnyH_takeL (i := 5) (v := .pointer (some ⟨ab, ao + k2 * 5, none⟩)) rfl (by kernel_rfl) (by kernel_rfl) (by kernel_rfl) (fun _ _ _ h => h) (Or.inl ⟨by rfl, fun w' hSw => by obtain ⟨z0, z1, z2, z3, z4, zn, zl⟩ := hSw; go_simp⟩) ⟨(q0.x 0 _ rfl).1, (q0.x 1 _ rfl).1, (q0.x 2 _ rfl).1, (q0.x 3 _ rfl).1, (q0.x 4 _ rfl).1, hn_q0, hl_q0⟩ ?_
            simp only [Act.put, List.setIfInBounds_toArray, List.set_cons_zero, List.set_cons_succ]
            refine wpAnyH_takeL (i := 6) (v := .string y.nm) rfl (by kernel_rfl) (by kernel_rfl) (by kernel_rfl) (fun _ _ _ h => h) (Or.inl ⟨by rfl, fun w' hSw => by obtain ⟨z0, z1, z2, z3, z4, zn, zl⟩ := hSw; go_simp⟩) ⟨(q0.x 0 _ rfl).1, (q0.x 1 _ rfl).1, (q0.x 2 _ rfl).1, (q0.x 3 _ rfl).1, (q0.x 4 _ rfl).1, hn_q0, hl_q0⟩ ?_
            simp only [Act.put, List.setIfInBounds_toArray, List.set_cons_zero, List.set_cons_succ]
            refine wpAnyH_takeL (i := 7) (v := .slice (some ⟨nb, no, none⟩) NL.length nc) rfl (by kernel_rfl) (by kernel_rfl) (by kernel_rfl) (fun _ _ _ h => h) (Or.inl ⟨by rfl, fun w' hSw => by obtain ⟨z0, z1, z2, z3, z4, zn, zl⟩ := hSw; go_simp⟩) ⟨(q0.x 0 _ rfl).1, (q0.x 1 _ rfl).1, (q0.x 2 _ rfl).1, (q0.x 3 _ rfl).1, (q0.x 4 _ rfl).1, hn_q0, hl_q0⟩ ?_
            simp only [Act.put, List.setIfInBounds_toArray, List.set_cons_zero, List.set_cons_succ]
            refine wpAnyH_takeL (i := 8) (v := .pointer (some ⟨pb, 0, none⟩)) rfl (by kernel_rfl) (by kernel_rfl) (by kernel_rfl) (fun _ _ _ h => h) (Or.inl ⟨by rfl, fun w' hSw => by obtain ⟨z0, z1, z2, z3, z4, zn, zl⟩ := hSw; go_simp⟩) ⟨(q0.x 0 _ rfl).1, (q0.x 1 _ rfl).1, (q0.x 2 _ rfl).1, (q0.x 3 _ rfl).1, (q0.x 4 _ rfl).1, hn_q0, hl_q0⟩ ?_
            simp only [Act.put, List.setIfInBounds_toArray, List.set_cons_zero, List.set_cons_succ]
            refine wpAnyH_takeL (i := 9) (v := .slice (some ⟨nb, no, none⟩) NL.length nc) rfl (by kernel_rfl) (by kernel_rfl) (by kernel_rfl) (fun _ _ _ h => h) (Or.inl ⟨by rfl, fun w' hSw => by obtain ⟨z0, z1, z2, z3, z4, zn, zl⟩ := hSw; go_simp⟩) ⟨(q0.x 0 _ rfl).1, (q0.x 1 _ rfl).1, (q0.x 2 _ rfl).1, (q0.x 3 _ rfl).1, (q0.x 4 _ rfl).1, hn_q0, hl_q0⟩ ?_
            simp only [Act.put, List.setIfInBounds_toArray, List.set_cons_zero, List.set_cons_succ]
            refine wpAnyH_takeL (i := 10) (v := .int .i64 NL.length) rfl (by kernel_rfl) (by kernel_rfl) (by kernel_rfl) (fun _ _ _ h => h) (Or.inl ⟨by rfl, fun w' hSw => by obtain ⟨z0, z1, z2, z3, z4, zn, zl⟩ := hSw; go_simp⟩) ⟨(q0.x 0 _ rfl).1, (q0.x 1 _ rfl).1, (q0.x 2 _ rfl).1, (q0.x 3 _ rfl).1, (q0.x 4 _ rfl).1, hn_q0, hl_q0⟩ ?_
            simp only [Act.put, List.setIfInBounds_toArray, List.set_cons_zero, List.set_cons_succ]
            refine wpAnyH_ready (rs := [11, 18]) (by kernel_rfl) (by simp) ?_
            refine AllReadyH.consL rfl (fun K hK => ?_) (AllReadyH.consL rfl (fun K hK => ?_) AllReadyH.nil)
            · go_simp
              refine (pick_any pb A c l (N + N0 + 2) _ _ q0.cur (by omega) (by omega)).mono ?_
              rintro e V1 ⟨_, rfl, ⟨k3, rfl, hk3_⟩, hC, hFn⟩
              have hk3 : k3 < NL.length := by omega
              obtain ⟨st_, hst_, _⟩ := get_lt hk3
              have q1 := q0.step hpb hFn hC
              have hn_q1 := (World.cell?_of_block (hFn.block ab (World.block_lt_of_cell? _ _ hn_q0) (by omega))).trans hn_q0
              have hl_q1 : Ints V1 nlo nhi (some ⟨nb, no, none⟩) NL := hl_q0.fr hFn (by omega)
              clear hC hFn hk3_ q0 hn_q0 hl_q0
              go_simp
              refine hK.out _ _ ⟨(q1.x 0 _ rfl).1, (q1.x 1 _ rfl).1, (q1.x 2 _ rfl).1, (q1.x 3 _ rfl).1, (q1.x 4 _ rfl).1, hn_q1, hl_q1⟩ (fun hHeld => ?_)
              clear hK K
              simp only [List.setIfInBounds_toArray, List.set_cons_zero, List.set_cons_succ]
              refine wpAnyH_takeL (i := 12) (v := .pointer (some ⟨nb, no + k3, none⟩)) rfl (by kernel_rfl) (by kernel_rfl) (by kernel_rfl) (fun _ _ _ h => h) (Or.inl ⟨by rfl, fun w' hSw => by obtain ⟨z0, z1, z2, z3, z4, zn, zl⟩ := hSw; go_simp⟩) ⟨(q1.x 0 _ rfl).1, (q1.x 1 _ rfl).1, (q1.x 2 _ rfl).1, (q1.x 3 _ rfl).1, (q1.x 4 _ rfl).1, hn_q1, hl_q1⟩ ?_
              simp only [Act.put, List.setIfInBounds_toArray, List.set_cons_zero, List.set_cons_succ]
              refine wpAnyH_takeL (i := 13) (v := .int .i64 st_) rfl (by kernel_rfl) (by kernel_rfl) (by kernel_rfl) (fun _ _ _ h => h) (Or.inl ⟨by rfl, fun w' hSw => by obtain ⟨z0, z1, z2, z3, z4, zn, zl⟩ := hSw; obtain ⟨_, _, ee_, _, _, _, cc_, _⟩ := Ints.at1 zl hst_; cases ee_; go_simp⟩) ⟨(q1.x 0 _ rfl).1, (q1.x 1 _ rfl).1, (q1.x 2 _ rfl).1, (q1.x 3 _ rfl).1, (q1.x 4 _ rfl).1, hn_q1, hl_q1⟩ ?_
              simp only [Act.put, List.setIfInBounds_toArray, List.set_cons_zero, List.set_cons_succ]
              refine wpAnyH_ready (rs := [14, 18]) (by kernel_rfl) (by simp) ?_
              refine AllReadyH.consL rfl (fun K hK => ?_) (AllReadyH.consL rfl (fun K hK => ?_) AllReadyH.nil)
              · go_simp
                refine (TellState_specO A1 c1 f (some ⟨ab, ao, none⟩) c2 n A3 c3 s A4 c4 r A5 c5 h y.nm st_ _ (q1.e.ea hEF hL12 (by omega)) (by omega)).mono ?_
                have hD := Lib.hid (fun g => tel_small (v := st_) (nm := y.nm) g hEF (hEF.2.1.2 y hym))
                generalize telT f n s r h y.nm st_ = D at hD ⊢
                obtain ⟨⟨f2, n2, s2, r2, h2⟩, dd⟩ := D
                rintro e V2 ⟨D1, d1, D2, d2, D3, d3, D4, d4, D5, d5, rfl, hO, hb⟩
                dsimp only at hO
                have hsz2 := q1.lt
                have hsf2 := q1.fr.size
                have hxx2 := q1.hx
                have q2 := q1.below hb
                have hn_q2 := (World.cell?_of_block (hb.block ab (World.block_lt_of_cell? _ _ hn_q1))).trans hn_q1
                have hl_q2 : Ints V2 nlo nhi (some ⟨nb, no, none⟩) NL := hl_q1.below hb
                have hnew : EB V2 (w.heap.size + 1) [bx] D1 f2 D2 n2 D3 d3 s2 D4 d4 r2 D5 d5 h2 := EB.of hO (by omega) (by simp; omega)
                clear hb hO hsf2 hxx2 q1 hn_q1 hl_q1
                go_simp
                refine hK.out _ _ ⟨(q2.x 0 _ rfl).1, (q2.x 1 _ rfl).1, (q2.x 2 _ rfl).1, (q2.x 3 _ rfl).1, (q2.x 4 _ rfl).1, hn_q2, hl_q2⟩ (fun hHeld => ?_)
                clear hK K
                simp only [List.setIfInBounds_toArray, List.set_cons_zero, List.set_cons_succ]
                refine wpAnyH_takeL (i := 15) (v := .tuple #[.agg #[.slice D1 f2.length d1, .slice D2 n2.length d2, .slice D3 s2.length d3, .slice D4 r2.length d4, .slice D5 h2.length d5], .bool dd]) rfl (by kernel_rfl) (by kernel_rfl) (by kernel_rfl) (fun _ _ _ h => h) (Or.inl ⟨by rfl, fun w' hSw => by obtain ⟨z0, z1, z2, z3, z4, zn, zl⟩ := hSw; go_simp⟩) ⟨(q2.x 0 _ rfl).1, (q2.x 1 _ rfl).1, (q2.x 2 _ rfl).1, (q2.x 3 _ rfl).1, (q2.x 4 _ rfl).1, hn_q2, hl_q2⟩ ?_
                simp only [Act.put, List.setIfInBounds_toArray, List.set_cons_zero, List.set_cons_succ]
                refine wpAnyH_takeL (i := 16) (v := .agg #[.slice D1 f2.length d1, .slice D2 n2.length d2, .slice D3 s2.length d3, .slice D4 r2.length d4, .slice D5 h2.length d5]) rfl (by kernel_rfl) (by kernel_rfl) (by kernel_rfl) (fun _ _ _ h => h) (Or.inl ⟨by rfl, fun w' hSw => by obtain ⟨z0, z1, z2, z3, z4, zn, zl⟩ := hSw; go_simp⟩) ⟨(q2.x 0 _ rfl).1, (q2.x 1 _ rfl).1, (q2.x 2 _ rfl).1, (q2.x 3 _ rfl).1, (q2.x 4 _ rfl).1, hn_q2, hl_q2⟩ ?_
                simp only [Act.put, List.setIfInBounds_toArray, List.set_cons_zero, List.set_cons_succ]
                refine wpAnyH_takeL (i := 17) (v := .bool dd) rfl (by kernel_rfl) (by kernel_rfl) (by kernel_rfl) (fun _ _ _ h => h) (Or.inl ⟨by rfl, fun w' hSw => by obtain ⟨z0, z1, z2, z3, z4, zn, zl⟩ := hSw; go_simp⟩) ⟨(q2.x 0 _ rfl).1, (q2.x 1 _ rfl).1, (q2.x 2 _ rfl).1, (q2.x 3 _ rfl).1, (q2.x 4 _ rfl).1, hn_q2, hl_q2⟩ ?_
                simp only [Act.put, List.setIfInBounds_toArray, List.set_cons_zero, List.set_cons_succ]
                refine wpAnyH_ready (rs := [18]) (by kernel_rfl) (by simp) ?_
                refine AllReadyH.consL rfl (fun K hK => ?_) AllReadyH.nil
                go_simp
                obtain ⟨pn, hpn⟩ : ∃ pn, pn = V2.heap.size := ⟨_, rfl⟩
                have hN3 := BN.new V2 #[.slice none 0 0, .slice none 0 0, .slice none 0 0, .slice none 0 0, .slice none 0 0] 52 pn hpn
                have hsz_ := q2.lt
                have hsf_ := q2.fr.size
                have hba_ := (Below.refl V2.heap.size V2).alloc (Nat.le_refl _) (.cells #[.slice none 0 0, .slice none 0 0, .slice none 0 0, .slice none 0 0, .slice none 0 0] 52)
                have he3 := (q2.e.add (g := pn) (by omega)).below hba_
                have q3 := q2.alloc (.cells #[.slice none 0 0, .slice none 0 0, .slice none 0 0, .slice none 0 0, .slice none 0 0] 52)
                have hn_q3 := (World.cell?_of_block (hba_.block ab (World.block_lt_of_cell? _ _ hn_q2))).trans hn_q2
                have hl_q3 : Ints (V2.alloc (.cells #[.slice none 0 0, .slice none 0 0, .slice none 0 0, .slice none 0 0, .slice none 0 0] 52)) nlo nhi (some ⟨nb, no, none⟩) NL := hl_q2.below hba_
                have hpw : w.heap.size + 1 ≤ pn := by have := q2.hx; omega
                have hpx : bx ≠ pn := by omega
                have habn : ab < pn := by have := World.block_lt_of_cell? _ _ hn_q2; simp only at this; omega
                have hnhp : nhi ≤ pn := by obtain ⟨_, _, _, _, _, hh_, _⟩ := hl_q2.at_ hx0_; omega
                have hnew2 := (hnew.add (g := pn) (by omega)).below hba_
                clear hnew
                have hnew := hnew2
                clear hnew2
                rw [← hpn]
                clear hpn hsz_ hsf_ hba_ q2 hn_q2 hl_q2
                generalize V2.alloc (.cells #[.slice none 0 0, .slice none 0 0, .slice none 0 0, .slice none 0 0, .slice none 0 0] 52) = V3 at hN3 q3 he3 hn_q3 hl_q3 hnew ⊢
                refine hK.out _ _ ⟨(q3.x 0 _ rfl).1, (q3.x 1 _ rfl).1, (q3.x 2 _ rfl).1, (q3.x 3 _ rfl).1, (q3.x 4 _ rfl).1, hn_q3, hl_q3⟩ (fun hHeld => ?_)
                clear hK K
                simp only [List.setIfInBounds_toArray, List.set_cons_zero, List.set_cons_succ]
                refine wpAnyH_ready (rs := [19]) (by kernel_rfl) (by simp) ?_
                refine AllReadyH.consL rfl (fun K hK => ?_) AllReadyH.nil
                have nz0 := (hN3 0 _ rfl).1
                have mz0 := (hN3 0 _ rfl).2
                have nz1 := (hN3 1 _ rfl).1
                have mz1 := (hN3 1 _ rfl).2
                have nz2 := (hN3 2 _ rfl).1
                have mz2 := (hN3 2 _ rfl).2
                have nz3 := (hN3 3 _ rfl).1
                have mz3 := (hN3 3 _ rfl).2
                have nz4 := (hN3 4 _ rfl).1
                have mz4 := (hN3 4 _ rfl).2
                go_simp
                have hY := (((((hN3.put (i := 0) rfl (.slice D1 f2.length d1)).put (i := 1) rfl (.slice D2 n2.length d2)).put (i := 2) rfl (.slice D3 s2.length d3)).put (i := 3) rfl (.slice D4 r2.length d4)).put (i := 4) rfl (.slice D5 h2.length d5))
                have hF5 : Fr pn (pn + 1) V3 (((((V3.setCell ⟨pn, 0, none⟩ (.slice D1 f2.length d1)).setCell ⟨pn, 1, none⟩ (.slice D2 n2.length d2)).setCell ⟨pn, 2, none⟩ (.slice D3 s2.length d3)).setCell ⟨pn, 3, none⟩ (.slice D4 r2.length d4)).setCell ⟨pn, 4, none⟩ (.slice D5 h2.length d5)) := ((((((Fr.refl pn (pn + 1) V3).setCell (p := ⟨pn, 0, none⟩) ⟨Nat.le_refl _, Nat.lt_succ_self _⟩ (.slice D1 f2.length d1)).setCell (p := ⟨pn, 1, none⟩) ⟨Nat.le_refl _, Nat.lt_succ_self _⟩ (.slice D2 n2.length d2)).setCell (p := ⟨pn, 2, none⟩) ⟨Nat.le_refl _, Nat.lt_succ_self _⟩ (.slice D3 s2.length d3)).setCell (p := ⟨pn, 3, none⟩) ⟨Nat.le_refl _, Nat.lt_succ_self _⟩ (.slice D4 r2.length d4)).setCell (p := ⟨pn, 4, none⟩) ⟨Nat.le_refl _, Nat.lt_succ_self _⟩ (.slice D5 h2.length d5))
                generalize (((((V3.setCell ⟨pn, 0, none⟩ (.slice D1 f2.length d1)).setCell ⟨pn, 1, none⟩ (.slice D2 n2.length d2)).setCell ⟨pn, 2, none⟩ (.slice D3 s2.length d3)).setCell ⟨pn, 3, none⟩ (.slice D4 r2.length d4)).setCell ⟨pn, 4, none⟩ (.slice D5 h2.length d5)) = U at hY hF5 ⊢
                have hplt := hN3.lt (by simp)
                have hnl_ := World.block_lt_of_cell? _ _ hn_q3
                have q9 := q3.side hpb hpw hpx he3 hF5
                have hn_q9 : U.cell? ⟨ab, ao + k2 * 5, none⟩ = some (.string y.nm) := (World.cell?_of_block (hF5.block ab hnl_ (by omega))).trans hn_q3
                have hl_q9 : Ints U nlo nhi (some ⟨nb, no, none⟩) NL := hl_q3.fr hF5 (by omega)
                have hT : TelR w bx pn n.length (M + 1) dd U := fun g => by
                  obtain ⟨n3, s3, e1, e2⟩ := hD.out g
                  injection e1 with e1 _
                  injection e1 with e1 e3
                  injection e3 with e3 e4
                  injection e4 with e4 e5
                  injection e5 with e5 e6
                  subst e1 e3 e4 e5 e6
                  exact ⟨D1, d1, _, D2, d2, _, D3, d3, _, D4, d4, _, D5, d5, _, e2, (hnew.box (g := pn) (by simp) hF5).sub (by simp), hY⟩
                refine hK.out _ _ ⟨(q9.x 0 _ rfl).1, (q9.x 1 _ rfl).1, (q9.x 2 _ rfl).1, (q9.x 3 _ rfl).1, (q9.x 4 _ rfl).1, hn_q9, hl_q9⟩ (fun hHeld => ?_)
                clear hK K
                simp only [List.setIfInBounds_toArray, List.set_cons_zero, List.set_cons_succ]
                refine wpAnyH_takeL (i := 20) (v := .bool dd) rfl (by kernel_rfl) (by kernel_rfl) (by kernel_rfl) (fun _ _ _ h => h) (Or.inl ⟨by rfl, fun w' hSw => by obtain ⟨z0, z1, z2, z3, z4, zn, zl⟩ := hSw; go_simp⟩) ⟨(q9.x 0 _ rfl).1, (q9.x 1 _ rfl).1, (q9.x 2 _ rfl).1, (q9.x 3 _ rfl).1, (q9.x 4 _ rfl).1, hn_q9, hl_q9⟩ ?_
                simp only [Act.put, List.setIfInBounds_toArray, List.set_cons_zero, List.set_cons_succ]
                refine wpAnyH_done (by kernel_rfl) ?_ _
                clear nz0 nz1 nz2 nz3 nz4 mz0 mz1 mz2 mz3 mz4 hF5 hY hN3 he3 hnew hD q3 hn_q3 hl_q3 hplt hnl_ hn_q9 hl_q9 hHeld
                go_wp2_with fail
                go_meet
                exact ⟨pn, dd, rfl, rfl, q9, hT⟩
              · go_simp
                obtain ⟨pn, hpn⟩ : ∃ pn, pn = V1.heap.size := ⟨_, rfl⟩
                have hN4 := BN.new V1 #[.slice none 0 0, .slice none 0 0, .slice none 0 0, .slice none 0 0, .slice none 0 0] 52 pn hpn
                have hsz_ := q1.lt
                have hsf_ := q1.fr.size
                have hba_ := (Below.refl V1.heap.size V1).alloc (Nat.le_refl _) (.cells #[.slice none 0 0, .slice none 0 0, .slice none 0 0, .slice none 0 0, .slice none 0 0] 52)
                have he4 := (q1.e.add (g := pn) (by omega)).below hba_
                have q4 := q1.alloc (.cells #[.slice none 0 0, .slice none 0 0, .slice none 0 0, .slice none 0 0, .slice none 0 0] 52)
                have hn_q4 := (World.cell?_of_block (hba_.block ab (World.block_lt_of_cell? _ _ hn_q1))).trans hn_q1
                have hl_q4 : Ints (V1.alloc (.cells #[.slice none 0 0, .slice none 0 0, .slice none 0 0, .slice none 0 0, .slice none 0 0] 52)) nlo nhi (some ⟨nb, no, none⟩) NL := hl_q1.below hba_
                have hpw : w.heap.size + 1 ≤ pn := by have := q1.hx; omega
                have hpx : bx ≠ pn := by omega
                have habn : ab < pn := by have := World.block_lt_of_cell? _ _ hn_q1; simp only at this; omega
                have hnhp : nhi ≤ pn := by obtain ⟨_, _, _, _, _, hh_, _⟩ := hl_q1.at_ hx0_; omega
                rw [← hpn]
                clear hpn hsz_ hsf_ hba_ q1 hn_q1 hl_q1
                generalize V1.alloc (.cells #[.slice none 0 0, .slice none 0 0, .slice none 0 0, .slice none 0 0, .slice none 0 0] 52) = V4 at hN4 q4 he4 hn_q4 hl_q4 ⊢
                refine hK.out _ _ ⟨(q4.x 0 _ rfl).1, (q4.x 1 _ rfl).1, (q4.x 2 _ rfl).1, (q4.x 3 _ rfl).1, (q4.x 4 _ rfl).1, hn_q4, hl_q4⟩ (fun hHeld => ?_)
                clear hK K
                simp only [List.setIfInBounds_toArray, List.set_cons_zero, List.set_cons_succ]
                refine wpAnyH_ready (rs := [14]) (by kernel_rfl) (by simp) ?_
                refine AllReadyH.consL rfl (fun K hK => ?_) AllReadyH.nil
                go_simp
                refine (TellState_specO A1 c1 f (some ⟨ab, ao, none⟩) c2 n A3 c3 s A4 c4 r A5 c5 h y.nm st_ _ (q4.e.ea hEF hL12 (by omega)) (by omega)).mono ?_
                have hD := Lib.hid (fun g => tel_small (v := st_) (nm := y.nm) g hEF (hEF.2.1.2 y hym))
                generalize telT f n s r h y.nm st_ = D at hD ⊢
                obtain ⟨⟨f2, n2, s2, r2, h2⟩, dd⟩ := D
                rintro e V5 ⟨D1, d1, D2, d2, D3, d3, D4, d4, D5, d5, rfl, hO, hb⟩
                dsimp only at hO
                have hsz5 := q4.lt
                have hsf5 := q4.fr.size
                have hxx5 := q4.hx
                have q5 := q4.below hb
                have hn_q5 := (World.cell?_of_block (hb.block ab (World.block_lt_of_cell? _ _ hn_q4))).trans hn_q4
                have hl_q5 : Ints V5 nlo nhi (some ⟨nb, no, none⟩) NL := hl_q4.below hb
                have hpl5 := hN4.lt (by simp)
                have hN5 := hN4.below (by simp) hb
                have he5 := he4.below hb
                have hnew : EB V5 (w.heap.size + 1) [pn, bx] D1 f2 D2 n2 D3 d3 s2 D4 d4 r2 D5 d5 h2 := EB.of hO (by omega) (by simp; omega)
                clear hb hO hsf5 hxx5 q4 hn_q4 hl_q4 hN4 he4
                go_simp
                refine hK.out _ _ ⟨(q5.x 0 _ rfl).1, (q5.x 1 _ rfl).1, (q5.x 2 _ rfl).1, (q5.x 3 _ rfl).1, (q5.x 4 _ rfl).1, hn_q5, hl_q5⟩ (fun hHeld => ?_)
                clear hK K
                simp only [List.setIfInBounds_toArray, List.set_cons_zero, List.set_cons_succ]
                refine wpAnyH_takeL (i := 15) (v := .tuple #[.agg #[.slice D1 f2.length d1, .slice D2 n2.length d2, .slice D3 s2.length d3, .slice D4 r2.length d4, .slice D5 h2.length d5], .bool dd]) rfl (by kernel_rfl) (by kernel_rfl) (by kernel_rfl) (fun _ _ _ h => h) (Or.inl ⟨by rfl, fun w' hSw => by obtain ⟨z0, z1, z2, z3, z4, zn, zl⟩ := hSw; go_simp⟩) ⟨(q5.x 0 _ rfl).1, (q5.x 1 _ rfl).1, (q5.x 2 _ rfl).1, (q5.x 3 _ rfl).1, (q5.x 4 _ rfl).1, hn_q5, hl_q5⟩ ?_
                simp only [Act.put, List.setIfInBounds_toArray, List.set_cons_zero, List.set_cons_succ]
                refine wpAnyH_takeL (i := 16) (v := .agg #[.slice D1 f2.length d1, .slice D2 n2.length d2, .slice D3 s2.length d3, .slice D4 r2.length d4, .slice D5 h2.length d5]) rfl (by kernel_rfl) (by kernel_rfl) (by kernel_rfl) (fun _ _ _ h => h) (Or.inl ⟨by rfl, fun w' hSw => by obtain ⟨z0, z1, z2, z3, z4, zn, zl⟩ := hSw; go_simp⟩) ⟨(q5.x 0 _ rfl).1, (q5.x 1 _ rfl).1, (q5.x 2 _ rfl).1, (q5.x 3 _ rfl).1, (q5.x 4 _ rfl).1, hn_q5, hl_q5⟩ ?_
                simp only [Act.put, List.setIfInBounds_toArray, List.set_cons_zero, List.set_cons_succ]
                refine wpAnyH_takeL (i := 17) (v := .bool dd) rfl (by kernel_rfl) (by kernel_rfl) (by kernel_rfl) (fun _ _ _ h => h) (Or.inl ⟨by rfl, fun w' hSw => by obtain ⟨z0, z1, z2, z3, z4, zn, zl⟩ := hSw; go_simp⟩) ⟨(q5.x 0 _ rfl).1, (q5.x 1 _ rfl).1, (q5.x 2 _ rfl).1, (q5.x 3 _ rfl).1, (q5.x 4 _ rfl).1, hn_q5, hl_q5⟩ ?_
                simp only [Act.put, List.setIfInBounds_toArray, List.set_cons_zero, List.set_cons_succ]
                refine wpAnyH_ready (rs := [19]) (by kernel_rfl) (by simp) ?_
                refine AllReadyH.consL rfl (fun K hK => ?_) AllReadyH.nil
                have nz0 := (hN5 0 _ rfl).1
                have mz0 := (hN5 0 _ rfl).2
                have nz1 := (hN5 1 _ rfl).1
                have mz1 := (hN5 1 _ rfl).2
                have nz2 := (hN5 2 _ rfl).1
                have mz2 := (hN5 2 _ rfl).2
                have nz3 := (hN5 3 _ rfl).1
                have mz3 := (hN5 3 _ rfl).2
                have nz4 := (hN5 4 _ rfl).1
                have mz4 := (hN5 4 _ rfl).2
                go_simp
                have hY := (((((hN5.put (i := 0) rfl (.slice D1 f2.length d1)).put (i := 1) rfl (.slice D2 n2.length d2)).put (i := 2) rfl (.slice D3 s2.length d3)).put (i := 3) rfl (.slice D4 r2.length d4)).put (i := 4) rfl (.slice D5 h2.length d5))
                have hF5 : Fr pn (pn + 1) V5 (((((V5.setCell ⟨pn, 0, none⟩ (.slice D1 f2.length d1)).setCell ⟨pn, 1, none⟩ (.slice D2 n2.length d2)).setCell ⟨pn, 2, none⟩ (.slice D3 s2.length d3)).setCell ⟨pn, 3, none⟩ (.slice D4 r2.length d4)).setCell ⟨pn, 4, none⟩ (.slice D5 h2.length d5)) := ((((((Fr.refl pn (pn + 1) V5).setCell (p := ⟨pn, 0, none⟩) ⟨Nat.le_refl _, Nat.lt_succ_self _⟩ (.slice D1 f2.length d1)).setCell (p := ⟨pn, 1, none⟩) ⟨Nat.le_refl _, Nat.lt_succ_self _⟩ (.slice D2 n2.length d2)).setCell (p := ⟨pn, 2, none⟩) ⟨Nat.le_refl _, Nat.lt_succ_self _⟩ (.slice D3 s2.length d3)).setCell (p := ⟨pn, 3, none⟩) ⟨Nat.le_refl _, Nat.lt_succ_self _⟩ (.slice D4 r2.length d4)).setCell (p := ⟨pn, 4, none⟩) ⟨Nat.le_refl _, Nat.lt_succ_self _⟩ (.slice D5 h2.length d5))
                generalize (((((V5.setCell ⟨pn, 0, none⟩ (.slice D1 f2.length d1)).setCell ⟨pn, 1, none⟩ (.slice D2 n2.length d2)).setCell ⟨pn, 2, none⟩ (.slice D3 s2.length d3)).setCell ⟨pn, 3, none⟩ (.slice D4 r2.length d4)).setCell ⟨pn, 4, none⟩ (.slice D5 h2.length d5)) = U at hY hF5 ⊢
                have hplt := hN5.lt (by simp)
                have hnl_ := World.block_lt_of_cell? _ _ hn_q5
                have q9 := q5.side hpb hpw hpx he5 hF5
                have hn_q9 : U.cell? ⟨ab, ao + k2 * 5, none⟩ = some (.string y.nm) := (World.cell?_of_block (hF5.block ab hnl_ (by omega))).trans hn_q5
                have hl_q9 : Ints U nlo nhi (some ⟨nb, no, none⟩) NL := hl_q5.fr hF5 (by omega)
                have hT : TelR w bx pn n.length (M + 1) dd U := fun g => by
                  obtain ⟨n3, s3, e1, e2⟩ := hD.out g
                  injection e1 with e1 _
                  injection e1 with e1 e3
                  injection e3 with e3 e4
                  injection e4 with e4 e5
                  injection e5 with e5 e6
                  subst e1 e3 e4 e5 e6
                  exact ⟨D1, d1, _, D2, d2, _, D3, d3, _, D4, d4, _, D5, d5, _, e2, (hnew.box (g := pn) (by simp) hF5).sub (by simp), hY⟩
                refine hK.out _ _ ⟨(q9.x 0 _ rfl).1, (q9.x 1 _ rfl).1, (q9.x 2 _ rfl).1, (q9.x 3 _ rfl).1, (q9.x 4 _ rfl).1, hn_q9, hl_q9⟩ (fun hHeld => ?_)
                clear hK K
                simp only [List.setIfInBounds_toArray, List.set_cons_zero, List.set_cons_succ]
                refine wpAnyH_takeL (i := 20) (v := .bool dd) rfl (by kernel_rfl) (by kernel_rfl) (by kernel_rfl) (fun _ _ _ h => h) (Or.inl ⟨by rfl, fun w' hSw => by obtain ⟨z0, z1, z2, z3, z4, zn, zl⟩ := hSw; go_simp⟩) ⟨(q9.x 0 _ rfl).1, (q9.x 1 _ rfl).1, (q9.x 2 _ rfl).1, (q9.x 3 _ rfl).1, (q9.x 4 _ rfl).1, hn_q9, hl_q9⟩ ?_
                simp only [Act.put, List.setIfInBounds_toArray, List.set_cons_zero, List.set_cons_succ]
                refine wpAnyH_done (by kernel_rfl) ?_ _
                clear nz0 nz1 nz2 nz3 nz4 mz0 mz1 mz2 mz3 mz4 hF5 hY hN5 he5 hnew hD q5 hn_q5 hl_q5 hplt hnl_ hn_q9 hl_q9 hHeld
                go_wp2_with fail
                go_meet
                exact ⟨pn, dd, rfl, rfl, q9, hT⟩
            · go_simp
              obtain ⟨pn, hpn⟩ : ∃ pn, pn = V0.heap.size := ⟨_, rfl⟩
              have hN6 := BN.new V0 #[.slice none 0 0, .slice none 0 0, .slice none 0 0, .slice none 0 0, .slice none 0 0] 52 pn hpn
              have hsz_ := q0.lt
              have hsf_ := q0.fr.size
              have hba_ := (Below.refl V0.heap.size V0).alloc (Nat.le_refl _) (.cells #[.slice none 0 0, .slice none 0 0, .slice none 0 0, .slice none 0 0, .slice none 0 0] 52)
              have he6 := (q0.e.add (g := pn) (by omega)).below hba_
              have q6 := q0.alloc (.cells #[.slice none 0 0, .slice none 0 0, .slice none 0 0, .slice none 0 0, .slice none 0 0] 52)
              have hn_q6 := (World.cell?_of_block (hba_.block ab (World.block_lt_of_cell? _ _ hn_q0))).trans hn_q0
              have hl_q6 : Ints (V0.alloc (.cells #[.slice none 0 0, .slice none 0 0, .slice none 0 0, .slice none 0 0, .slice none 0 0] 52)) nlo nhi (some ⟨nb, no, none⟩) NL := hl_q0.below hba_
              have hpw : w.heap.size + 1 ≤ pn := by have := q0.hx; omega
              have hpx : bx ≠ pn := by omega
              have habn : ab < pn := by have := World.block_lt_of_cell? _ _ hn_q0; simp only at this; omega
              have hnhp : nhi ≤ pn := by obtain ⟨_, _, _, _, _, hh_, _⟩ := hl_q0.at_ hx0_; omega
              rw [← hpn]
              clear hpn hsz_ hsf_ hba_ q0 hn_q0 hl_q0
              generalize V0.alloc (.cells #[.slice none 0 0, .slice none 0 0, .slice none 0 0, .slice none 0 0, .slice none 0 0] 52) = V6 at hN6 q6 he6 hn_q6 hl_q6 ⊢
              refine hK.out _ _ ⟨(q6.x 0 _ rfl).1, (q6.x 1 _ rfl).1, (q6.x 2 _ rfl).1, (q6.x 3 _ rfl).1, (q6.x 4 _ rfl).1, hn_q6, hl_q6⟩ (fun hHeld => ?_)
              clear hK K
              simp only [List.setIfInBounds_toArray, List.set_cons_zero, List.set_cons_succ]
              refine wpAnyH_ready (rs := [11]) (by kernel_rfl) (by simp) ?_
              refine AllReadyH.consL rfl (fun K hK => ?_) AllReadyH.nil
              go_simp
              refine (pick_any pb A c l (N + N0 + 2) _ _ q6.cur (by omega) (by omega)).mono ?_
              rintro e V7 ⟨_, rfl, ⟨k3, rfl, hk3_⟩, hC, hFn⟩
              have hk3 : k3 < NL.length := by omega
              obtain ⟨st_, hst_, _⟩ := get_lt hk3
              have q7 := q6.step hpb hFn hC
              have hn_q7 := (World.cell?_of_block (hFn.block ab (World.block_lt_of_cell? _ _ hn_q6) (by omega))).trans hn_q6
              have hl_q7 : Ints V7 nlo nhi (some ⟨nb, no, none⟩) NL := hl_q6.fr hFn (by omega)
              have hN7 := hN6.fr hFn (by simp) (by omega)
              have he7 := he6.fr hFn (by omega)
              clear hC hFn hk3_ q6 hn_q6 hl_q6 hN6 he6
              go_simp
              refine hK.out _ _ ⟨(q7.x 0 _ rfl).1, (q7.x 1 _ rfl).1, (q7.x 2 _ rfl).1, (q7.x 3 _ rfl).1, (q7.x 4 _ rfl).1, hn_q7, hl_q7⟩ (fun hHeld => ?_)
              clear hK K
              simp only [List.setIfInBounds_toArray, List.set_cons_zero, List.set_cons_succ]
              refine wpAnyH_takeL (i := 12) (v := .pointer (some ⟨nb, no + k3, none⟩)) rfl (by kernel_rfl) (by kernel_rfl) (by kernel_rfl) (fun _ _ _ h => h) (Or.inl ⟨by rfl, fun w' hSw => by obtain ⟨z0, z1, z2, z3, z4, zn, zl⟩ := hSw; go_simp⟩) ⟨(q7.x 0 _ rfl).1, (q7.x 1 _ rfl).1, (q7.x 2 _ rfl).1, (q7.x 3 _ rfl).1, (q7.x 4 _ rfl).1, hn_q7, hl_q7⟩ ?_
              simp only [Act.put, List.setIfInBounds_toArray, List.set_cons_zero, List.set_cons_succ]
              refine wpAnyH_takeL (i := 13) (v := .int .i64 st_) rfl (by kernel_rfl) (by kernel_rfl) (by kernel_rfl) (fun _ _ _ h => h) (Or.inl ⟨by rfl, fun w' hSw => by obtain ⟨z0, z1, z2, z3, z4, zn, zl⟩ := hSw; obtain ⟨_, _, ee_, _, _, _, cc_, _⟩ := Ints.at1 zl hst_; cases ee_; go_simp⟩) ⟨(q7.x 0 _ rfl).1, (q7.x 1 _ rfl).1, (q7.x 2 _ rfl).1, (q7.x 3 _ rfl).1, (q7.x 4 _ rfl).1, hn_q7, hl_q7⟩ ?_
              simp only [Act.put, List.setIfInBounds_toArray, List.set_cons_zero, List.set_cons_succ]
              refine wpAnyH_ready (rs := [14]) (by kernel_rfl) (by simp) ?_
              refine AllReadyH.consL rfl (fun K hK => ?_) AllReadyH.nil
              go_simp
              refine (TellState_specO A1 c1 f (some ⟨ab, ao, none⟩) c2 n A3 c3 s A4 c4 r A5 c5 h y.nm st_ _ (q7.e.ea hEF hL12 (by omega)) (by omega)).mono ?_
              have hD := Lib.hid (fun g => tel_small (v := st_) (nm := y.nm) g hEF (hEF.2.1.2 y hym))
              generalize telT f n s r h y.nm st_ = D at hD ⊢
              obtain ⟨⟨f2, n2, s2, r2, h2⟩, dd⟩ := D
              rintro e V8 ⟨D1, d1, D2, d2, D3, d3, D4, d4, D5, d5, rfl, hO, hb⟩
              dsimp only at hO
              have hsz8 := q7.lt
              have hsf8 := q7.fr.size
              have hxx8 := q7.hx
              have q8 := q7.below hb
              have hn_q8 := (World.cell?_of_block (hb.block ab (World.block_lt_of_cell? _ _ hn_q7))).trans hn_q7
              have hl_q8 : Ints V8 nlo nhi (some ⟨nb, no, none⟩) NL := hl_q7.below hb
              have hpl8 := hN7.lt (by simp)
              have hN8 := hN7.below (by simp) hb
              have he8 := he7.below hb
              have hnew : EB V8 (w.heap.size + 1) [pn, bx] D1 f2 D2 n2 D3 d3 s2 D4 d4 r2 D5 d5 h2 := EB.of hO (by omega) (by simp; omega)
              clear hb hO hsf8 hxx8 q7 hn_q7 hl_q7 hN7 he7
              go_simp
              refine hK.out _ _ ⟨(q8.x 0 _ rfl).1, (q8.x 1 _ rfl).1, (q8.x 2 _ rfl).1, (q8.x 3 _ rfl).1, (q8.x 4 _ rfl).1, hn_q8, hl_q8⟩ (fun hHeld => ?_)
              clear hK K
              simp only [List.setIfInBounds_toArray, List.set_cons_zero, List.set_cons_succ]
              refine wpAnyH_takeL (i := 15) (v := .tuple #[.agg #[.slice D1 f2.length d1, .slice D2 n2.length d2, .slice D3 s2.length d3, .slice D4 r2.length d4, .slice D5 h2.length d5], .bool dd]) rfl (by kernel_rfl) (by kernel_rfl) (by kernel_rfl) (fun _ _ _ h => h) (Or.inl ⟨by rfl, fun w' hSw => by obtain ⟨z0, z1, z2, z3, z4, zn, zl⟩ := hSw; go_simp⟩) ⟨(q8.x 0 _ rfl).1, (q8.x 1 _ rfl).1, (q8.x 2 _ rfl).1, (q8.x 3 _ rfl).1, (q8.x 4 _ rfl).1, hn_q8, hl_q8⟩ ?_
              simp only [Act.put, List.setIfInBounds_toArray, List.set_cons_zero, List.set_cons_succ]
              refine wpAnyH_takeL (i := 16) (v := .agg #[.slice D1 f2.length d1, .slice D2 n2.length d2, .slice D3 s2.length d3, .slice D4 r2.length d4, .slice D5 h2.length d5]) rfl (by kernel_rfl) (by kernel_rfl) (by kernel_rfl) (fun _ _ _ h => h) (Or.inl ⟨by rfl, fun w' hSw => by obtain ⟨z0, z1, z2, z3, z4, zn, zl⟩ := hSw; go_simp⟩) ⟨(q8.x 0 _ rfl).1, (q8.x 1 _ rfl).1, (q8.x 2 _ rfl).1, (q8.x 3 _ rfl).1, (q8.x 4 _ rfl).1, hn_q8, hl_q8⟩ ?_
              simp only [Act.put, List.setIfInBounds_toArray, List.set_cons_zero, List.set_cons_succ]
              refine wpAnyH_takeL (i := 17) (v := .bool dd) rfl (by kernel_rfl) (by kernel_rfl) (by kernel_rfl) (fun _ _ _ h => h) (Or.inl ⟨by rfl, fun w' hSw => by obtain ⟨z0, z1, z2, z3, z4, zn, zl⟩ := hSw; go_simp⟩) ⟨(q8.x 0 _ rfl).1, (q8.x 1 _ rfl).1, (q8.x 2 _ rfl).1, (q8.x 3 _ rfl).1, (q8.x 4 _ rfl).1, hn_q8, hl_q8⟩ ?_
              simp only [Act.put, List.setIfInBounds_toArray, List.set_cons_zero, List.set_cons_succ]
              refine wpAnyH_ready (rs := [19]) (by kernel_rfl) (by simp) ?_
              refine AllReadyH.consL rfl (fun K hK => ?_) AllReadyH.nil
              have nz0 := (hN8 0 _ rfl).1
              have mz0 := (hN8 0 _ rfl).2
              have nz1 := (hN8 1 _ rfl).1
              have mz1 := (hN8 1 _ rfl).2
              have nz2 := (hN8 2 _ rfl).1
              have mz2 := (hN8 2 _ rfl).2
              have nz3 := (hN8 3 _ rfl).1
              have mz3 := (hN8 3 _ rfl).2
              have nz4 := (hN8 4 _ rfl).1
              have mz4 := (hN8 4 _ rfl).2
              go_simp
              have hY := (((((hN8.put (i := 0) rfl (.slice D1 f2.length d1)).put (i := 1) rfl (.slice D2 n2.length d2)).put (i := 2) rfl (.slice D3 s2.length d3)).put (i := 3) rfl (.slice D4 r2.length d4)).put (i := 4) rfl (.slice D5 h2.length d5))
              have hF5 : Fr pn (pn + 1) V8 (((((V8.setCell ⟨pn, 0, none⟩ (.slice D1 f2.length d1)).setCell ⟨pn, 1, none⟩ (.slice D2 n2.length d2)).setCell ⟨pn, 2, none⟩ (.slice D3 s2.length d3)).setCell ⟨pn, 3, none⟩ (.slice D4 r2.length d4)).setCell ⟨pn, 4, none⟩ (.slice D5 h2.length d5)) := ((((((Fr.refl pn (pn + 1) V8).setCell (p := ⟨pn, 0, none⟩) ⟨Nat.le_refl _, Nat.lt_succ_self _⟩ (.slice D1 f2.length d1)).setCell (p := ⟨pn, 1, none⟩) ⟨Nat.le_refl _, Nat.lt_succ_self _⟩ (.slice D2 n2.length d2)).setCell (p := ⟨pn, 2, none⟩) ⟨Nat.le_refl _, Nat.lt_succ_self _⟩ (.slice D3 s2.length d3)).setCell (p := ⟨pn, 3, none⟩) ⟨Nat.le_refl _, Nat.lt_succ_self _⟩ (.slice D4 r2.length d4)).setCell (p := ⟨pn, 4, none⟩) ⟨Nat.le_refl _, Nat.lt_succ_self _⟩ (.slice D5 h2.length d5))
              generalize (((((V8.setCell ⟨pn, 0, none⟩ (.slice D1 f2.length d1)).setCell ⟨pn, 1, none⟩ (.slice D2 n2.length d2)).setCell ⟨pn, 2, none⟩ (.slice D3 s2.length d3)).setCell ⟨pn, 3, none⟩ (.slice D4 r2.length d4)).setCell ⟨pn, 4, none⟩ (.slice D5 h2.length d5)) = U at hY hF5 ⊢
              have hplt := hN8.lt (by simp)
              have hnl_ := World.block_lt_of_cell? _ _ hn_q8
              have q9 := q8.side hpb hpw hpx he8 hF5
              have hn_q9 : U.cell? ⟨ab, ao + k2 * 5, none⟩ = some (.string y.nm) := (World.cell?_of_block (hF5.block ab hnl_ (by omega))).trans hn_q8
              have hl_q9 : Ints U nlo nhi (some ⟨nb, no, none⟩) NL := hl_q8.fr hF5 (by omega)
              have hT : TelR w bx pn n.length (M + 1) dd U := fun g => by
                obtain ⟨n3, s3, e1, e2⟩ := hD.out g
                injection e1 with e1 _
                injection e1 with e1 e3
                injection e3 with e3 e4
                injection e4 with e4 e5
                injection e5 with e5 e6
                subst e1 e3 e4 e5 e6
                exact ⟨D1, d1, _, D2, d2, _, D3, d3, _, D4, d4, _, D5, d5, _, e2, (hnew.box (g := pn) (by simp) hF5).sub (by simp), hY⟩
              refine hK.out _ _ ⟨(q9.x 0 _ rfl).1, (q9.x 1 _ rfl).1, (q9.x 2 _ rfl).1, (q9.x 3 _ rfl).1, (q9.x 4 _ rfl).1, hn_q9, hl_q9⟩ (fun hHeld => ?_)
              clear hK K
              simp only [List.setIfInBounds_toArray, List.set_cons_zero, List.set_cons_succ]
              refine wpAnyH_takeL (i := 20) (v := .bool dd) rfl (by kernel_rfl) (by kernel_rfl) (by kernel_rfl) (fun _ _ _ h => h) (Or.inl ⟨by rfl, fun w' hSw => by obtain ⟨z0, z1, z2, z3, z4, zn, zl⟩ := hSw; go_simp⟩) ⟨(q9.x 0 _ rfl).1, (q9.x 1 _ rfl).1, (q9.x 2 _ rfl).1, (q9.x 3 _ rfl).1, (q9.x 4 _ rfl).1, hn_q9, hl_q9⟩ ?_
              simp only [Act.put, List.setIfInBounds_toArray, List.set_cons_zero, List.set_cons_succ]
              refine wpAnyH_done (by kernel_rfl) ?_ _
              clear nz0 nz1 nz2 nz3 nz4 mz0 mz1 mz2 mz3 mz4 hF5 hY hN8 he8 hnew hD q8 hn_q8 hl_q8 hplt hnl_ hn_q9 hl_q9 hHeld
              go_wp2_with fail
              go_meet
              exact ⟨pn, dd, rfl, rfl, q9, hT⟩
        case rest =>
          clear q hnc hnl hy hym hys
          obtain ⟨pn, dd, rfl, rfl, q, hT⟩ := hcut
          go_upto_if 65 with fail
          go_cut [6] from 26 to 83 (fun n_ wx => n_ = .int .i64 k ∧ ∃ (A1 : Option Addr) (c1 : Nat) (f : List App) (A2 : Option Addr) (c2 : Nat) (n2 : List App) (A3 : Option Addr) (c3 : Nat) (s : List Msg) (A4 : Option Addr) (c4 : Nat) (r : List Msg) (A5 : Option Addr) (c5 : Nat) (h : List Msg), EF n.length (M + 1) f n2 s r h ∧ EQ w pb bx A c l (N + N0 + 2 + 2) A1 c1 f A2 c2 n2 A3 c3 s A4 c4 r A5 c5 h wx)
          case first =>
            as_aux_lemma =>
              cases dd with
              | false =>
                clear hT
                go_wp2_with fail
                go_meet
                exact ⟨rfl, A1, c1, f, _, c2, n, A3, c3, s, A4, c4, r, A5, c5, h, hEF.more (by omega), q⟩
              | true =>
                obtain ⟨D1, d1, f2, D2, d2, n2, D3, d3, s2, D4, d4, r2, D5, d5, h2, hE2, hB2, hY⟩ := hT rfl
                have q9 := q.put (d1 := d1) (d2 := d2) hpb hB2
                have y0 := (hY 0 _ rfl).1
                have v0 := (q.x 0 _ rfl).1
                have u0 := (q.x 0 _ rfl).2
                have y1 := (hY 1 _ rfl).1
                have v1 := (q.x 1 _ rfl).1
                have u1 := (q.x 1 _ rfl).2
                have y2 := (hY 2 _ rfl).1
                have v2 := (q.x 2 _ rfl).1
                have u2 := (q.x 2 _ rfl).2
                have y3 := (hY 3 _ rfl).1
                have v3 := (q.x 3 _ rfl).1
                have u3 := (q.x 3 _ rfl).2
                have y4 := (hY 4 _ rfl).1
                have v4 := (q.x 4 _ rfl).1
                have u4 := (q.x 4 _ rfl).2
                clear hY hB2 q hT
                go_wp2_with fail
                go_meet
                exact ⟨rfl, D1, d1, f2, D2, d2, n2, D3, d3, s2, D4, d4, r2, D5, d5, h2, hE2, q9⟩
          case rest =>
            clear q hT
            obtain ⟨rfl, A1, c1, f, A2, c2, n2, A3, c3, s, A4, c4, r, A5, c5, h, hEF2, q⟩ := hcut
            clear hEF
            have hEF : EF n.length (M + 1) f n2 s r h := hEF2
            clear hEF2
            have hnl2_ := hEF.2.1.1
            rw [← hnl2_] at hEF hL12 hnl_
            clear hnl2_ hk2 hk2'
            have b0 := (q.x 0 _ rfl).1
            have b1 := (q.x 1 _ rfl).1
            have b2 := (q.x 2 _ rfl).1
            have b3 := (q.x 3 _ rfl).1
            have b4 := (q.x 4 _ rfl).1
            by_cases h0 : 0 < s.length
            · have h0' : (0 : Int) < s.length := by omega
              go_wp2_with fail
              refine (one_any pb A c l (N + N0 + 2 + 2) 2 _ q.cur (by omega) (by omega)).mono ?_
              rintro e wC ⟨_, rfl, ⟨bb_, rfl⟩, hC1, hFn⟩
              replace q := q.step hpb hFn hC1
              clear hFn hC1 b0 b1 b2 b3 b4
              cases bb_ with
              | false =>
                go_wp2
                go_roundw
                case rel => exact ⟨k - 1, A1, c1, f, A2, c2, n2, A3, c3, s, A4, c4, r, A5, c5, h, by first | go_num | (congr 1; omega), by omega, by rw [← hnl_.out]; exact hEF.more (by omega), q.more (by have := hN0.out; omega)⟩
                case measure => simp [intOf]; omega
              | true =>
                go_upto_region 15 with fail
                have q0 := q.drew
                have hsl_ := hEF.2.2.1.1
                refine wp_region_held_drew (S := fun _ => True) (by kernel_rfl) trivial (fun hHeld => ?_)
                clear q hHeld
                generalize wC.drew = V0 at q0 ⊢
                change wpAnyH _ _ _ _ _ 8 #[false, false, false, false, false, false, false, false] _ _
                refine wpAnyH_takeL (i := 0) (v := .pointer (some ⟨bx, 2, none⟩)) rfl (by kernel_rfl) (by kernel_rfl) (by kernel_rfl) (fun _ _ _ h => h) (Or.inl ⟨by rfl, fun w' hSw => by go_simp⟩) trivial ?_
                simp only [Act.put, List.setIfInBounds_toArray, List.set_cons_zero, List.set_cons_succ]
                refine wpAnyH_takeL (i := 2) (v := .pointer (some ⟨pb, 0, none⟩)) rfl (by kernel_rfl) (by kernel_rfl) (by kernel_rfl) (fun _ _ _ h => h) (Or.inl ⟨by rfl, fun w' hSw => by go_simp⟩) trivial ?_
                simp only [Act.put, List.setIfInBounds_toArray, List.set_cons_zero, List.set_cons_succ]
                refine wpAnyH_takeL (i := 3) (v := .int .i64 s.length) rfl (by kernel_rfl) (by kernel_rfl) (by kernel_rfl) (fun _ _ _ h => h) (Or.inl ⟨by rfl, fun w' hSw => by go_simp⟩) trivial ?_
                simp only [Act.put, List.setIfInBounds_toArray, List.set_cons_zero, List.set_cons_succ]
                refine wpAnyH_ready (rs := [1, 4]) (by kernel_rfl) (by simp) ?_
                refine AllReadyH.consL rfl (fun K hK => ?_) (AllReadyH.consL rfl (fun K hK => ?_) AllReadyH.nil)
                · have b0 := (q0.x 0 _ rfl).1
                  have f0_ := (q0.x 0 _ rfl).2
                  have b1 := (q0.x 1 _ rfl).1
                  have f1_ := (q0.x 1 _ rfl).2
                  have b2 := (q0.x 2 _ rfl).1
                  have f2_ := (q0.x 2 _ rfl).2
                  have b3 := (q0.x 3 _ rfl).1
                  have f3_ := (q0.x 3 _ rfl).2
                  have b4 := (q0.x 4 _ rfl).1
                  have f4_ := (q0.x 4 _ rfl).2
                  go_simp
                  refine hK.out _ _ trivial (fun _ => ?_)
                  clear b0 f0_ b1 f1_ b2 f2_ b3 f3_ b4 f4_
                  clear hK K
                  simp only [List.setIfInBounds_toArray, List.set_cons_zero, List.set_cons_succ]
                  refine wpAnyH_ready (rs := [4]) (by kernel_rfl) (by simp) ?_
                  refine AllReadyH.consL rfl (fun K hK => ?_) AllReadyH.nil
                  go_simp
                  refine (pick_any pb A c l (N + N0 + 6) _ _ q0.cur (by omega) (by omega)).mono ?_
                  rintro e V16 ⟨_, rfl, ⟨k4, rfl, hk4_⟩, hC, hFn⟩
                  have hk4 : k4 < s.length := by omega
                  have q16 := q0.step hpb hFn hC
                  clear hC hFn hk4_ q0
                  go_simp
                  refine hK.out _ _ trivial (fun _ => ?_)
                  clear hK K
                  simp only [List.setIfInBounds_toArray, List.set_cons_zero, List.set_cons_succ]
                  refine wpAnyH_ready (rs := [5]) (by kernel_rfl) (by simp) ?_
                  refine AllReadyH.consL rfl (fun K hK => ?_) AllReadyH.nil
                  go_simp
                  obtain ⟨m, hm, hmm⟩ := get_lt hk4
                  have hEA := EB.ea (c1 := c1) (c2 := c2) q16.e hEF hL12 (show M + 1 ≤ 100 by omega)
                  refine (raDeliver_any A3 c3 s A4 c4 r A5 c5 h _ hEA.ls hEA.Ss hEA.lr hEA.Sr hEA.lh hEA.Sh k4 m hm).mono ?_
                  obtain ⟨u1, u2⟩ := hEF.2.2.2.1.2.add (m := m) (hEF.2.2.1.2 m hmm)
                  generalize addW r m = L2 at u1 u2 ⊢
                  rintro e V17 ⟨D3, d3, D4, d4, D5, d5, rfl, hI, hb⟩
                  have q17 := q16.below hb
                  have q9 := q16.putC hpb hb hI
                  clear hb hI hm hmm hEA q16
                  go_simp
                  refine hK.out _ _ trivial (fun _ => ?_)
                  clear hK K
                  simp only [List.setIfInBounds_toArray, List.set_cons_zero, List.set_cons_succ]
                  refine wpAnyH_takeL (i := 6) (v := .pointer (some ⟨bx, 2, none⟩)) rfl (by kernel_rfl) (by kernel_rfl) (by kernel_rfl) (fun _ _ _ h => h) (Or.inl ⟨by rfl, fun w' hSw => by go_simp⟩) trivial ?_
                  simp only [Act.put, List.setIfInBounds_toArray, List.set_cons_zero, List.set_cons_succ]
                  refine wpAnyH_ready (rs := [7]) (by kernel_rfl) (by simp) ?_
                  refine AllReadyH.consL rfl (fun K hK => ?_) AllReadyH.nil
                  have b0 := (q17.x 0 _ rfl).1
                  have f0_ := (q17.x 0 _ rfl).2
                  have b1 := (q17.x 1 _ rfl).1
                  have f1_ := (q17.x 1 _ rfl).2
                  have b2 := (q17.x 2 _ rfl).1
                  have f2_ := (q17.x 2 _ rfl).2
                  have b3 := (q17.x 3 _ rfl).1
                  have f3_ := (q17.x 3 _ rfl).2
                  have b4 := (q17.x 4 _ rfl).1
                  have f4_ := (q17.x 4 _ rfl).2
                  go_simp
                  refine hK.out _ _ trivial (fun _ => ?_)
                  clear hK K
                  simp only [List.setIfInBounds_toArray, List.set_cons_zero, List.set_cons_succ]
                  refine wpAnyH_done (by kernel_rfl) ?_ _
                  clear b0 f0_ b1 f1_ b2 f2_ b3 f3_ b4 f4_
                  clear q17
                  generalize (((V17.setCell ⟨bx, 2, none⟩ (.slice D3 s.length d3)).setCell ⟨bx, 3, none⟩ (.slice D4 L2.length d4)).setCell ⟨bx, 4, none⟩ (.slice D5 h.length d5)) = U at q9 ⊢
                  go_wp2
                  go_roundw
                  case rel => exact ⟨k - 1, A1, c1, f, A2, c2, n2, D3, d3, s, D4, d4, L2, D5, d5, h, by first | go_num | (congr 1; omega), by omega, ⟨hEF.1, ⟨hnl_.out, hEF.2.1.2⟩, ⟨by have := hEF.2.2.1.1; omega, hEF.2.2.1.2⟩, ⟨by have := hEF.2.2.2.1.1; omega, u1⟩, ⟨by have := hEF.2.2.2.2.1; omega, hEF.2.2.2.2.2⟩⟩, q9.more (by have := hN0.out; omega)⟩
                  case measure => simp [intOf]; omega
                · go_simp
                  refine (pick_any pb A c l (N + N0 + 6) _ _ q0.cur (by omega) (by omega)).mono ?_
                  rintro e V18 ⟨_, rfl, ⟨k4, rfl, hk4_⟩, hC, hFn⟩
                  have hk4 : k4 < s.length := by omega
                  have q18 := q0.step hpb hFn hC
                  clear hC hFn hk4_ q0
                  go_simp
                  refine hK.out _ _ trivial (fun _ => ?_)
                  clear hK K
                  simp only [List.setIfInBounds_toArray, List.set_cons_zero, List.set_cons_succ]
                  refine wpAnyH_ready (rs := [1]) (by kernel_rfl) (by simp) ?_
                  refine AllReadyH.consL rfl (fun K hK => ?_) AllReadyH.nil
                  have b0 := (q18.x 0 _ rfl).1
                  have f0_ := (q18.x 0 _ rfl).2
                  have b1 := (q18.x 1 _ rfl).1
                  have f1_ := (q18.x 1 _ rfl).2
                  have b2 := (q18.x 2 _ rfl).1
                  have f2_ := (q18.x 2 _ rfl).2
                  have b3 := (q18.x 3 _ rfl).1
                  have f3_ := (q18.x 3 _ rfl).2
                  have b4 := (q18.x 4 _ rfl).1
                  have f4_ := (q18.x 4 _ rfl).2
                  go_simp
                  refine hK.out _ _ trivial (fun _ => ?_)
                  clear b0 f0_ b1 f1_ b2 f2_ b3 f3_ b4 f4_
                  clear hK K
                  simp only [List.setIfInBounds_toArray, List.set_cons_zero, List.set_cons_succ]
                  refine wpAnyH_ready (rs := [5]) (by kernel_rfl) (by simp) ?_
                  refine AllReadyH.consL rfl (fun K hK => ?_) AllReadyH.nil
                  go_simp
                  obtain ⟨m, hm, hmm⟩ := get_lt hk4
                  have hEA := EB.ea (c1 := c1) (c2 := c2) q18.e hEF hL12 (show M + 1 ≤ 100 by omega)
                  refine (raDeliver_any A3 c3 s A4 c4 r A5 c5 h _ hEA.ls hEA.Ss hEA.lr hEA.Sr hEA.lh hEA.Sh k4 m hm).mono ?_
                  obtain ⟨u1, u2⟩ := hEF.2.2.2.1.2.add (m := m) (hEF.2.2.1.2 m hmm)
                  generalize addW r m = L2 at u1 u2 ⊢
                  rintro e V19 ⟨D3, d3, D4, d4, D5, d5, rfl, hI, hb⟩
                  have q19 := q18.below hb
                  have q9 := q18.putC hpb hb hI
                  clear hb hI hm hmm hEA q18
                  go_simp
                  refine hK.out _ _ trivial (fun _ => ?_)
                  clear hK K
                  simp only [List.setIfInBounds_toArray, List.set_cons_zero, List.set_cons_succ]
                  refine wpAnyH_takeL (i := 6) (v := .pointer (some ⟨bx, 2, none⟩)) rfl (by kernel_rfl) (by kernel_rfl) (by kernel_rfl) (fun _ _ _ h => h) (Or.inl ⟨by rfl, fun w' hSw => by go_simp⟩) trivial ?_
                  simp only [Act.put, List.setIfInBounds_toArray, List.set_cons_zero, List.set_cons_succ]
                  refine wpAnyH_ready (rs := [7]) (by kernel_rfl) (by simp) ?_
                  refine AllReadyH.consL rfl (fun K hK => ?_) AllReadyH.nil
                  have b0 := (q19.x 0 _ rfl).1
                  have f0_ := (q19.x 0 _ rfl).2
                  have b1 := (q19.x 1 _ rfl).1
                  have f1_ := (q19.x 1 _ rfl).2
                  have b2 := (q19.x 2 _ rfl).1
                  have f2_ := (q19.x 2 _ rfl).2
                  have b3 := (q19.x 3 _ rfl).1
                  have f3_ := (q19.x 3 _ rfl).2
                  have b4 := (q19.x 4 _ rfl).1
                  have f4_ := (q19.x 4 _ rfl).2
                  go_simp
                  refine hK.out _ _ trivial (fun _ => ?_)
                  clear hK K
                  simp only [List.setIfInBounds_toArray, List.set_cons_zero, List.set_cons_succ]
                  refine wpAnyH_done (by kernel_rfl) ?_ _
                  clear b0 f0_ b1 f1_ b2 f2_ b3 f3_ b4 f4_
                  clear q19
                  generalize (((V19.setCell ⟨bx, 2, none⟩ (.slice D3 s.length d3)).setCell ⟨bx, 3, none⟩ (.slice D4 L2.length d4)).setCell ⟨bx, 4, none⟩ (.slice D5 h.length d5)) = U at q9 ⊢
                  go_wp2
                  go_roundw
                  case rel => exact ⟨k - 1, A1, c1, f, A2, c2, n2, D3, d3, s, D4, d4, L2, D5, d5, h, by first | go_num | (congr 1; omega), by omega, ⟨hEF.1, ⟨hnl_.out, hEF.2.1.2⟩, ⟨by have := hEF.2.2.1.1; omega, hEF.2.2.1.2⟩, ⟨by have := hEF.2.2.2.1.1; omega, u1⟩, ⟨by have := hEF.2.2.2.2.1; omega, hEF.2.2.2.2.2⟩⟩, q9.more (by have := hN0.out; omega)⟩
                  case measure => simp [intOf]; omega
            · have h0' : ¬ (0 : Int) < s.length := by omega
              go_wp2
              go_roundw
              case rel => exact ⟨k - 1, A1, c1, f, A2, c2, n2, A3, c3, s, A4, c4, r, A5, c5, h, by first | go_num | (congr 1; omega), by omega, by rw [← hnl_.out]; exact hEF.more (by omega), q.more (by have := hN0.out; omega)⟩
              case measure => simp [intOf]; omega
      · have hEF' : EF L.length 14 f n s r h := hEF.more (by omega)
        replace q : EQ w pb bx A c l (N + 360) A1 c1 f A2 c2 n A3 c3 s A4 c4 r A5 c5 h wr := q.more (by omega)
        clear hEF
        by_cases hk1 : 0 < k
        · have hk1' : (0 : Int) < k := by omega
          have hL1' : ¬ (0 : Int) < L.length := by omega
          go_wp2_with fail
          go_meet
          exact ⟨k, A1, c1, f, A2, c2, n, A3, c3, s, A4, c4, r, A5, c5, h, rfl, hEF', q⟩
        · have hk1' : ¬ (0 : Int) < k := by omega
          go_wp2_with fail
          go_meet
          exact ⟨k, A1, c1, f, A2, c2, n, A3, c3, s, A4, c4, r, A5, c5, h, rfl, hEF', q⟩
  case rest =>
    clear q hEF hk1'
    obtain ⟨k_, A1, c1, f, A2, c2, n, A3, c3, s, A4, c4, r, A5, c5, h, rfl, hEF, q⟩ := hcut
    have hnl_ : n.length = L.length := hEF.2.1.1
    rw [← hnl_] at hEF hL12
    clear hnl_
    go_wp2_with fail
    refine (pick_any pb A c l (N + 360) 30 _ q.cur (by omega) (by omega)).mono ?_
    rintro e wE ⟨_, rfl, ⟨k5, rfl, _⟩, hC1, hFn⟩
    replace q := q.step hpb hFn hC1
    clear hFn hC1
    by_cases e0 : k5 = 0
    · have s0 : ((k5 : Int) == 0) = true := by simp [e0]
      clear e0
      have b0 := (q.x 0 _ rfl).1
      have b1 := (q.x 1 _ rfl).1
      have b2 := (q.x 2 _ rfl).1
      have b3 := (q.x 3 _ rfl).1
      have b4 := (q.x 4 _ rfl).1
      by_cases hn0 : 0 < n.length
      · have hn0' : (0 : Int) < n.length := by omega
        go_upto_region 19 with fail
        clear b0 b1 b2 b3 b4 hi0 hv0 hv1 hv2
        obtain ⟨y, hy, hym⟩ := get_lt hn0
        obtain ⟨l1_, h1_, l2_, h2_, _, SS, _⟩ := id q.e
        obtain ⟨ab, ao, rfl, _⟩ := SS.at_ hy
        clear hy hym SS
        have q0 := q.drew
        refine wp_region_held_drew (S := (fun w' => w'.cell? ⟨bx, 0, none⟩ = some (.slice A1 f.length c1) ∧ w'.cell? ⟨bx, 1, none⟩ = some (.slice (some ⟨ab, ao, none⟩) n.length c2) ∧ w'.cell? ⟨bx, 2, none⟩ = some (.slice A3 s.length c3) ∧ w'.cell? ⟨bx, 3, none⟩ = some (.slice A4 r.length c4) ∧ w'.cell? ⟨bx, 4, none⟩ = some (.slice A5 h.length c5))) (by kernel_rfl) ⟨(q0.x 0 _ rfl).1, (q0.x 1 _ rfl).1, (q0.x 2 _ rfl).1, (q0.x 3 _ rfl).1, (q0.x 4 _ rfl).1⟩ (fun hHeld => ?_)
        clear q hHeld
        generalize wE.drew = V0 at q0 ⊢
        change wpAnyH _ _ _ _ _ 12 #[false, false, false, false, false, false, false, false, false, false, false, false] _ _
        refine wpAnyH_takeL (i := 0) (v := .pointer (some ⟨bx, 1, none⟩)) rfl (by kernel_rfl) (by kernel_rfl) (by kernel_rfl) (fun _ _ _ h => h) (Or.inl ⟨by rfl, fun w' hSw => by obtain ⟨z0, z1, z2, z3, z4⟩ := hSw; go_simp⟩) ⟨(q0.x 0 _ rfl).1, (q0.x 1 _ rfl).1, (q0.x 2 _ rfl).1, (q0.x 3 _ rfl).1, (q0.x 4 _ rfl).1⟩ ?_
        simp only [Act.put, List.setIfInBounds_toArray, List.set_cons_zero, List.set_cons_succ]
        refine wpAnyH_takeL (i := 1) (v := .slice (some ⟨ab, ao, none⟩) n.length c2) rfl (by kernel_rfl) (by kernel_rfl) (by kernel_rfl) (fun _ _ _ h => h) (Or.inl ⟨by rfl, fun w' hSw => by obtain ⟨z0, z1, z2, z3, z4⟩ := hSw; go_simp⟩) ⟨(q0.x 0 _ rfl).1, (q0.x 1 _ rfl).1, (q0.x 2 _ rfl).1, (q0.x 3 _ rfl).1, (q0.x 4 _ rfl).1⟩ ?_
        simp only [Act.put, List.setIfInBounds_toArray, List.set_cons_zero, List.set_cons_succ]
        refine wpAnyH_takeL (i := 2) (v := .pointer (some ⟨pb, 0, none⟩)) rfl (by kernel_rfl) (by kernel_rfl) (by kernel_rfl) (fun _ _ _ h => h) (Or.inl ⟨by rfl, fun w' hSw => by obtain ⟨z0, z1, z2, z3, z4⟩ := hSw; go_simp⟩) ⟨(q0.x 0 _ rfl).1, (q0.x 1 _ rfl).1, (q0.x 2 _ rfl).1, (q0.x 3 _ rfl).1, (q0.x 4 _ rfl).1⟩ ?_
        simp only [Act.put, List.setIfInBounds_toArray, List.set_cons_zero, List.set_cons_succ]
        refine wpAnyH_takeL (i := 3) (v := .pointer (some ⟨bx, 1, none⟩)) rfl (by kernel_rfl) (by kernel_rfl) (by kernel_rfl) (fun _ _ _ h => h) (Or.inl ⟨by rfl, fun w' hSw => by obtain ⟨z0, z1, z2, z3, z4⟩ := hSw; go_simp⟩) ⟨(q0.x 0 _ rfl).1, (q0.x 1 _ rfl).1, (q0.x 2 _ rfl).1, (q0.x 3 _ rfl).1, (q0.x 4 _ rfl).1⟩ ?_
        simp only [Act.put, List.setIfInBounds_toArray, List.set_cons_zero, List.set_cons_succ]
        refine wpAnyH_takeL (i := 4) (v := .slice (some ⟨ab, ao, none⟩) n.length c2) rfl (by kernel_rfl) (by kernel_rfl) (by kernel_rfl) (fun _ _ _ h => h) (Or.inl ⟨by rfl, fun w' hSw => by obtain ⟨z0, z1, z2, z3, z4⟩ := hSw; go_simp⟩) ⟨(q0.x 0 _ rfl).1, (q0.x 1 _ rfl).1, (q0.x 2 _ rfl).1, (q0.x 3 _ rfl).1, (q0.x 4 _ rfl).1⟩ ?_
        simp only [Act.put, List.setIfInBounds_toArray, List.set_cons_zero, List.set_cons_succ]
        refine wpAnyH_takeL (i := 5) (v := .int .i64 n.length) rfl (by kernel_rfl) (by kernel_rfl) (by kernel_rfl) (fun _ _ _ h => h) (Or.inl ⟨by rfl, fun w' hSw => by obtain ⟨z0, z1, z2, z3, z4⟩ := hSw; go_simp⟩) ⟨(q0.x 0 _ rfl).1, (q0.x 1 _ rfl).1, (q0.x 2 _ rfl).1, (q0.x 3 _ rfl).1, (q0.x 4 _ rfl).1⟩ ?_
        simp only [Act.put, List.setIfInBounds_toArray, List.set_cons_zero, List.set_cons_succ]
        refine wpAnyH_takeL (i := 7) (v := .pointer (some ⟨pb, 0, none⟩)) rfl (by kernel_rfl) (by kernel_rfl) (by kernel_rfl) (fun _ _ _ h => h) (Or.inl ⟨by rfl, fun w' hSw => by obtain ⟨z0, z1, z2, z3, z4⟩ := hSw; go_simp⟩) ⟨(q0.x 0 _ rfl).1, (q0.x 1 _ rfl).1, (q0.x 2 _ rfl).1, (q0.x 3 _ rfl).1, (q0.x 4 _ rfl).1⟩ ?_
        simp only [Act.put, List.setIfInBounds_toArray, List.set_cons_zero, List.set_cons_succ]
        refine wpAnyH_ready (rs := [6]) (by kernel_rfl) (by simp) ?_
        refine AllReadyH.consL rfl (fun K hK => ?_) AllReadyH.nil
        go_simp
        refine (pick_any pb A c l (N + 362) _ _ q0.cur (by omega) (by omega)).mono ?_
        rintro e V9 ⟨_, rfl, ⟨k6, rfl, hk6_⟩, hC, hFn⟩
        have hk6 : k6 < n.length := by omega
        have q9 := q0.step hpb hFn hC
        clear hC hFn hk6_ q0
        go_simp
        refine hK.out _ _ ⟨(q9.x 0 _ rfl).1, (q9.x 1 _ rfl).1, (q9.x 2 _ rfl).1, (q9.x 3 _ rfl).1, (q9.x 4 _ rfl).1⟩ (fun _ => ?_)
        clear hK K
        simp only [List.setIfInBounds_toArray, List.set_cons_zero, List.set_cons_succ]
        refine wpAnyH_ready (rs := [8]) (by kernel_rfl) (by simp) ?_
        refine AllReadyH.consL rfl (fun K hK => ?_) AllReadyH.nil
        go_simp
        refine (pick_any pb A c l (N + 364) _ _ q9.cur (by omega) (by omega)).mono ?_
        rintro e V10 ⟨_, rfl, ⟨k7, rfl, hk7_⟩, hC, hFn⟩
        have q10 := q9.step hpb hFn hC
        clear hC hFn hk7_ q9
        go_simp
        refine hK.out _ _ ⟨(q10.x 0 _ rfl).1, (q10.x 1 _ rfl).1, (q10.x 2 _ rfl).1, (q10.x 3 _ rfl).1, (q10.x 4 _ rfl).1⟩ (fun _ => ?_)
        clear hK K
        simp only [List.setIfInBounds_toArray, List.set_cons_zero, List.set_cons_succ]
        refine wpAnyH_takeL (i := 9) (v := .pointer (some ⟨ab, ao + k6 * 5, none⟩)) rfl (by kernel_rfl) (by kernel_rfl) (by kernel_rfl) (fun _ _ _ h => h) (Or.inl ⟨by rfl, fun w' hSw => by obtain ⟨z0, z1, z2, z3, z4⟩ := hSw; go_simp⟩) ⟨(q10.x 0 _ rfl).1, (q10.x 1 _ rfl).1, (q10.x 2 _ rfl).1, (q10.x 3 _ rfl).1, (q10.x 4 _ rfl).1⟩ ?_
        simp only [Act.put, List.setIfInBounds_toArray, List.set_cons_zero, List.set_cons_succ]
        refine wpAnyH_takeL (i := 10) (v := .pointer (some ⟨ab, ao + k6 * 5 + 4, none⟩)) rfl (by kernel_rfl) (by kernel_rfl) (by kernel_rfl) (fun _ _ _ h => h) (Or.inl ⟨by rfl, fun w' hSw => by obtain ⟨z0, z1, z2, z3, z4⟩ := hSw; go_simp⟩) ⟨(q10.x 0 _ rfl).1, (q10.x 1 _ rfl).1, (q10.x 2 _ rfl).1, (q10.x 3 _ rfl).1, (q10.x 4 _ rfl).1⟩ ?_
        simp only [Act.put, List.setIfInBounds_toArray, List.set_cons_zero, List.set_cons_succ]
        refine wpAnyH_ready (rs := [11]) (by kernel_rfl) (by simp) ?_
        refine AllReadyH.consL rfl (fun K hK => ?_) AllReadyH.nil
        obtain ⟨x, hx, _⟩ := get_lt hk6
        have hcs := (q10.e)
        obtain ⟨l1_, h1_, l2_, h2_, _, SS, _⟩ := hcs
        obtain ⟨b_, o_, ee, _, _, _, hf⟩ := SS.at_ hx
        cases ee
        have c4_ : V10.cell? ⟨ab, ao + k6 * 5 + 4, none⟩ = some (.int .i64 x.st) := (hf 4 _ rfl).1
        have g4_ : V10.frozen? ⟨ab, ao + k6 * 5 + 4, none⟩ = false := (hf 4 _ rfl).2
        clear hf SS
        go_simp
        have q9 := q10.now (v := (k7 : Int)) hEF hL12 (by omega) hpb hx
        refine hK.out _ _ ⟨(q9.x 0 _ rfl).1, (by have := (q9.x 1 _ rfl).1; rw [List.length_set] at this; exact this), (q9.x 2 _ rfl).1, (q9.x 3 _ rfl).1, (q9.x 4 _ rfl).1⟩ (fun _ => ?_)
        clear hK K
        simp only [List.setIfInBounds_toArray, List.set_cons_zero, List.set_cons_succ]
        refine wpAnyH_done (by kernel_rfl) ?_ _
        clear c4_ g4_ q10
        generalize V10.setCell ⟨ab, ao + k6 * 5 + 4, none⟩ (.int .i64 (k7 : Int)) = U at q9 ⊢
        generalize n.set k6 (withSt x k7) = n9 at q9 ⊢
        have QF := q9.fin hpb
        have r0 := (q9.z 0 _ rfl).1
        have r1 := (q9.z 1 _ rfl).1
        have r2 := (q9.z 2 _ rfl).1
        have r3 := (q9.z 3 _ rfl).1
        have r4 := (q9.z 4 _ rfl).1
        have g0 := (q9.z 0 _ rfl).2
        have g1 := (q9.z 1 _ rfl).2
        have g2 := (q9.z 2 _ rfl).2
        have g3 := (q9.z 3 _ rfl).2
        have g4 := (q9.z 4 _ rfl).2
        have x0 := (q9.x 0 _ rfl).1
        have x1 := (q9.x 1 _ rfl).1
        have x2 := (q9.x 2 _ rfl).1
        have x3 := (q9.x 3 _ rfl).1
        have x4 := (q9.x 4 _ rfl).1
        obtain ⟨hRR, hEE, hCC, hFF⟩ := QF
        have z0 := (hRR 0 _ rfl).1
        have z1 := (hRR 1 _ rfl).1
        have z2 := (hRR 2 _ rfl).1
        have z3 := (hRR 3 _ rfl).1
        have z4 := (hRR 4 _ rfl).1
        clear q9 hRR
        go_wp2
        refine bodyPost_ret (by simp [results, Tryz.results95, go_sem, z0, z1, z2, z3, z4]; try rfl) rfl ?_
        exact ⟨A1, c1, f, _, c2, n9, A3, c3, s, A4, c4, r, A5, c5, h, rfl, hEE, hCC.more (by omega), hFF⟩
      · have hn0' : ¬ (0 : Int) < n.length := by omega
        have q9 := q.ez hEF hL12 (by omega)
        clear q b0 b1 b2 b3 b4 hi0 hv0 hv1 hv2
        have QF := q9.fin hpb
        have r0 := (q9.z 0 _ rfl).1
        have r1 := (q9.z 1 _ rfl).1
        have r2 := (q9.z 2 _ rfl).1
        have r3 := (q9.z 3 _ rfl).1
        have r4 := (q9.z 4 _ rfl).1
        have g0 := (q9.z 0 _ rfl).2
        have g1 := (q9.z 1 _ rfl).2
        have g2 := (q9.z 2 _ rfl).2
        have g3 := (q9.z 3 _ rfl).2
        have g4 := (q9.z 4 _ rfl).2
        have x0 := (q9.x 0 _ rfl).1
        have x1 := (q9.x 1 _ rfl).1
        have x2 := (q9.x 2 _ rfl).1
        have x3 := (q9.x 3 _ rfl).1
        have x4 := (q9.x 4 _ rfl).1
        obtain ⟨hRR, hEE, hCC, hFF⟩ := QF
        have z0 := (hRR 0 _ rfl).1
        have z1 := (hRR 1 _ rfl).1
        have z2 := (hRR 2 _ rfl).1
        have z3 := (hRR 3 _ rfl).1
        have z4 := (hRR 4 _ rfl).1
        clear q9 hRR
        go_wp2
        refine bodyPost_ret (by simp [results, Tryz.results95, go_sem, z0, z1, z2, z3, z4]; try rfl) rfl ?_
        exact ⟨A1, c1, f, A2, c2, n, A3, c3, s, A4, c4, r, A5, c5, h, rfl, hEE, hCC.more (by omega), hFF⟩
    have s0 : ((k5 : Int) == 0) = false := by simp; omega
    by_cases e1 : k5 = 1
    · have s1 : ((k5 : Int) == 1) = true := by simp [e1]
      clear e0 e1
      go_upto_region 21 with fail
      have q0 := q.drew
      refine wp_region_held_drew (S := fun _ => True) (by kernel_rfl) trivial (fun hHeld => ?_)
      clear q hHeld
      generalize wE.drew = V0 at q0 ⊢
      change wpAnyH _ _ _ _ _ 10 #[false, false, false, false, false, false, false, false, false, false] _ _
      refine wpAnyH_takeL (i := 0) (v := .pointer (some ⟨bx, 2, none⟩)) rfl (by kernel_rfl) (by kernel_rfl) (by kernel_rfl) (fun _ _ _ h => h) (Or.inl ⟨by rfl, fun w' hSw => by go_simp⟩) trivial ?_
      simp only [Act.put, List.setIfInBounds_toArray, List.set_cons_zero, List.set_cons_succ]
      refine wpAnyH_takeL (i := 1) (v := .pointer (some ⟨bx, 2, none⟩)) rfl (by kernel_rfl) (by kernel_rfl) (by kernel_rfl) (fun _ _ _ h => h) (Or.inl ⟨by rfl, fun w' hSw => by go_simp⟩) trivial ?_
      simp only [Act.put, List.setIfInBounds_toArray, List.set_cons_zero, List.set_cons_succ]
      refine wpAnyH_takeL (i := 3) (v := .pointer (some ⟨pb, 0, none⟩)) rfl (by kernel_rfl) (by kernel_rfl) (by kernel_rfl) (fun _ _ _ h => h) (Or.inl ⟨by rfl, fun w' hSw => by go_simp⟩) trivial ?_
      simp only [Act.put, List.setIfInBounds_toArray, List.set_cons_zero, List.set_cons_succ]
      refine wpAnyH_ready (rs := [2, 4]) (by kernel_rfl) (by simp) ?_
      refine AllReadyH.consL rfl (fun K hK => ?_) (AllReadyH.consL rfl (fun K hK => ?_) AllReadyH.nil)
      · have b2 := (q0.x 2 _ rfl).1
        go_simp
        clear b2
        refine hK.out _ _ trivial (fun _ => ?_)
        clear hK K
        simp only [List.setIfInBounds_toArray, List.set_cons_zero, List.set_cons_succ]
        refine wpAnyH_ready (rs := [4]) (by kernel_rfl) (by simp) ?_
        refine AllReadyH.consL rfl (fun K hK => ?_) AllReadyH.nil
        go_simp
        refine (message_any pb A c l (N + 362) _ q0.cur (by omega)).mono ?_
        rintro e V11 ⟨x, hx, rfl, hC, hFn⟩
        have q11 := q0.step hpb hFn hC
        clear hC hFn q0
        go_simp
        refine hK.out _ _ trivial (fun _ => ?_)
        clear hK K
        simp only [List.setIfInBounds_toArray, List.set_cons_zero, List.set_cons_succ]
        refine wpAnyH_ready (rs := [5]) (by kernel_rfl) (by simp) ?_
        refine AllReadyH.consL rfl (fun K hK => ?_) AllReadyH.nil
        go_simp
        have q12 := q11.alloc (.cells #[.string x.f, .int .i64 x.n, .string x.b] 33)
        have hsl1 := sl_oneM V11 x
        refine hK.out _ _ trivial (fun _ => ?_)
        clear hK K
        simp only [List.setIfInBounds_toArray, List.set_cons_zero, List.set_cons_succ]
        obtain ⟨pv, hpv⟩ : ∃ pv, pv = V11.heap.size := ⟨_, rfl⟩
        rw [← hpv] at hsl1 ⊢
        clear q11 hpv
        generalize V11.alloc (.cells #[.string x.f, .int .i64 x.n, .string x.b] 33) = V12 at q12 hsl1 ⊢
        refine wpAnyH_ready (rs := [6]) (by kernel_rfl) (by simp) ?_
        refine AllReadyH.consL rfl (fun K hK => ?_) AllReadyH.nil
        rw [if_pos (by rfl)]
        obtain ⟨l1_, h1_, l2_, h2_, _, _, _, _, _, OC, _⟩ := id q12.e
        have hszb : w.heap.size + 1 ≤ V12.heap.size := by have := q12.lt; have := q12.hx; omega
        have hsl_ := hEF.2.2.1.1
        refine wp_append_all V12 (.tmp 107) (.tmp 110) _ rfl i0 _ _ Tryz.underlying24 hi0 hv0 hv1 hv2 rfl (by omega) Msg.len Msg.one OC.o1 hsl1 rfl rfl (by simp only [List.length_cons, List.length_nil]; unfold maxLen; omega) (by simp only [List.length_cons, List.length_nil]; omega) hszb ?_
        intro A' c' U hO2 hb2 hbut hdis
        obtain ⟨L2, hL2⟩ : ∃ L2, Hid (L2 = s ++ [x]) := ⟨_, Lib.hid rfl⟩
        rw [← hL2.out] at hO2 ⊢
        have y2 := ((q12.x.same (hbut bx q12.lt (fun a ea eb => by obtain ⟨_, _, _, _, _, _, _, _, _, _, _, y⟩ := q12.e; exact (y bx (by simp)).2.1 a _ ea rfl eb))) 2 _ rfl)
        obtain ⟨y2, y2f⟩ := y2
        have q9 := q12.app hEF hL12 (by omega) hpb hx hL2.out hO2 hb2 hbut hdis
        clear hb2 hbut hdis hO2 hL2 q12 hsl1 OC hszb hsl_
        refine hK.out _ _ trivial (fun _ => ?_)
        clear hK K
        simp only [Act.put, List.setIfInBounds_toArray, List.set_cons_zero, List.set_cons_succ]
        refine wpAnyH_takeL (i := 7) (v := .pointer (some ⟨bx, 2, none⟩)) rfl (by kernel_rfl) (by kernel_rfl) (by kernel_rfl) (fun _ _ _ h => h) (Or.inl ⟨by rfl, fun w' hSw => by go_simp⟩) trivial ?_
        simp only [Act.put, List.setIfInBounds_toArray, List.set_cons_zero, List.set_cons_succ]
        refine wpAnyH_takeL (i := 8) (v := .pointer (some ⟨bx, 2, none⟩)) rfl (by kernel_rfl) (by kernel_rfl) (by kernel_rfl) (fun _ _ _ h => h) (Or.inl ⟨by rfl, fun w' hSw => by go_simp⟩) trivial ?_
        simp only [Act.put, List.setIfInBounds_toArray, List.set_cons_zero, List.set_cons_succ]
        refine wpAnyH_ready (rs := [9]) (by kernel_rfl) (by simp) ?_
        refine AllReadyH.consL rfl (fun K hK => ?_) AllReadyH.nil
        go_simp
        clear y2 y2f
        refine hK.out _ _ trivial (fun _ => ?_)
        clear hK K
        simp only [List.setIfInBounds_toArray, List.set_cons_zero, List.set_cons_succ]
        refine wpAnyH_done (by kernel_rfl) ?_ _
        generalize U.setCell ⟨bx, 2, none⟩ (.slice A' L2.length c') = U2 at q9 ⊢
        clear hi0 hv0 hv1 hv2
        have QF := q9.fin hpb
        have r0 := (q9.z 0 _ rfl).1
        have r1 := (q9.z 1 _ rfl).1
        have r2 := (q9.z 2 _ rfl).1
        have r3 := (q9.z 3 _ rfl).1
        have r4 := (q9.z 4 _ rfl).1
        have g0 := (q9.z 0 _ rfl).2
        have g1 := (q9.z 1 _ rfl).2
        have g2 := (q9.z 2 _ rfl).2
        have g3 := (q9.z 3 _ rfl).2
        have g4 := (q9.z 4 _ rfl).2
        have x0 := (q9.x 0 _ rfl).1
        have x1 := (q9.x 1 _ rfl).1
        have x2 := (q9.x 2 _ rfl).1
        have x3 := (q9.x 3 _ rfl).1
        have x4 := (q9.x 4 _ rfl).1
        obtain ⟨hRR, hEE, hCC, hFF⟩ := QF
        have z0 := (hRR 0 _ rfl).1
        have z1 := (hRR 1 _ rfl).1
        have z2 := (hRR 2 _ rfl).1
        have z3 := (hRR 3 _ rfl).1
        have z4 := (hRR 4 _ rfl).1
        clear q9 hRR
        go_wp2
        refine bodyPost_ret (by simp [results, Tryz.results95, go_sem, z0, z1, z2, z3, z4]; try rfl) rfl ?_
        exact ⟨A1, c1, f, A2, c2, n, A', c', L2, A4, c4, r, A5, c5, h, rfl, hEE, hCC.more (by omega), hFF⟩
      · go_simp
        refine (message_any pb A c l (N + 362) _ q0.cur (by omega)).mono ?_
        rintro e V13 ⟨x, hx, rfl, hC, hFn⟩
        have q13 := q0.step hpb hFn hC
        clear hC hFn q0
        go_simp
        refine hK.out _ _ trivial (fun _ => ?_)
        clear hK K
        simp only [List.setIfInBounds_toArray, List.set_cons_zero, List.set_cons_succ]
        refine wpAnyH_ready (rs := [2, 5]) (by kernel_rfl) (by simp) ?_
        refine AllReadyH.consL rfl (fun K hK => ?_) (AllReadyH.consL rfl (fun K hK => ?_) AllReadyH.nil)
        · have b2 := (q13.x 2 _ rfl).1
          go_simp
          clear b2
          refine hK.out _ _ trivial (fun _ => ?_)
          clear hK K
          simp only [List.setIfInBounds_toArray, List.set_cons_zero, List.set_cons_succ]
          refine wpAnyH_ready (rs := [5]) (by kernel_rfl) (by simp) ?_
          refine AllReadyH.consL rfl (fun K hK => ?_) AllReadyH.nil
          go_simp
          have q14 := q13.alloc (.cells #[.string x.f, .int .i64 x.n, .string x.b] 33)
          have hsl1 := sl_oneM V13 x
          refine hK.out _ _ trivial (fun _ => ?_)
          clear hK K
          simp only [List.setIfInBounds_toArray, List.set_cons_zero, List.set_cons_succ]
          obtain ⟨pv, hpv⟩ : ∃ pv, pv = V13.heap.size := ⟨_, rfl⟩
          rw [← hpv] at hsl1 ⊢
          clear q13 hpv
          generalize V13.alloc (.cells #[.string x.f, .int .i64 x.n, .string x.b] 33) = V14 at q14 hsl1 ⊢
          refine wpAnyH_ready (rs := [6]) (by kernel_rfl) (by simp) ?_
          refine AllReadyH.consL rfl (fun K hK => ?_) AllReadyH.nil
          rw [if_pos (by rfl)]
          obtain ⟨l1_, h1_, l2_, h2_, _, _, _, _, _, OC, _⟩ := id q14.e
          have hszb : w.heap.size + 1 ≤ V14.heap.size := by have := q14.lt; have := q14.hx; omega
          have hsl_ := hEF.2.2.1.1
          refine wp_append_all V14 (.tmp 107) (.tmp 110) _ rfl i0 _ _ Tryz.underlying24 hi0 hv0 hv1 hv2 rfl (by omega) Msg.len Msg.one OC.o1 hsl1 rfl rfl (by simp only [List.length_cons, List.length_nil]; unfold maxLen; omega) (by simp only [List.length_cons, List.length_nil]; omega) hszb ?_
          intro A' c' U hO2 hb2 hbut hdis
          obtain ⟨L2, hL2⟩ : ∃ L2, Hid (L2 = s ++ [x]) := ⟨_, Lib.hid rfl⟩
          rw [← hL2.out] at hO2 ⊢
          have y2 := ((q14.x.same (hbut bx q14.lt (fun a ea eb => by obtain ⟨_, _, _, _, _, _, _, _, _, _, _, y⟩ := q14.e; exact (y bx (by simp)).2.1 a _ ea rfl eb))) 2 _ rfl)
          obtain ⟨y2, y2f⟩ := y2
          have q9 := q14.app hEF hL12 (by omega) hpb hx hL2.out hO2 hb2 hbut hdis
          clear hb2 hbut hdis hO2 hL2 q14 hsl1 OC hszb hsl_
          refine hK.out _ _ trivial (fun _ => ?_)
          clear hK K
          simp only [Act.put, List.setIfInBounds_toArray, List.set_cons_zero, List.set_cons_succ]
          refine wpAnyH_takeL (i := 7) (v := .pointer (some ⟨bx, 2, none⟩)) rfl (by kernel_rfl) (by kernel_rfl) (by kernel_rfl) (fun _ _ _ h => h) (Or.inl ⟨by rfl, fun w' hSw => by go_simp⟩) trivial ?_
          simp only [Act.put, List.setIfInBounds_toArray, List.set_cons_zero, List.set_cons_succ]
          refine wpAnyH_takeL (i := 8) (v := .pointer (some ⟨bx, 2, none⟩)) rfl (by kernel_rfl) (by kernel_rfl) (by kernel_rfl) (fun _ _ _ h => h) (Or.inl ⟨by rfl, fun w' hSw => by go_simp⟩) trivial ?_
          simp only [Act.put, List.setIfInBounds_toArray, List.set_cons_zero, List.set_cons_succ]
          refine wpAnyH_ready (rs := [9]) (by kernel_rfl) (by simp) ?_
          refine AllReadyH.consL rfl (fun K hK => ?_) AllReadyH.nil
          go_simp
          clear y2 y2f
          refine hK.out _ _ trivial (fun _ => ?_)
          clear hK K
          simp only [List.setIfInBounds_toArray, List.set_cons_zero, List.set_cons_succ]
          refine wpAnyH_done (by kernel_rfl) ?_ _
          generalize U.setCell ⟨bx, 2, none⟩ (.slice A' L2.length c') = U2 at q9 ⊢
          clear hi0 hv0 hv1 hv2
          have QF := q9.fin hpb
          have r0 := (q9.z 0 _ rfl).1
          have r1 := (q9.z 1 _ rfl).1
          have r2 := (q9.z 2 _ rfl).1
          have r3 := (q9.z 3 _ rfl).1
          have r4 := (q9.z 4 _ rfl).1
          have g0 := (q9.z 0 _ rfl).2
          have g1 := (q9.z 1 _ rfl).2
          have g2 := (q9.z 2 _ rfl).2
          have g3 := (q9.z 3 _ rfl).2
          have g4 := (q9.z 4 _ rfl).2
          have x0 := (q9.x 0 _ rfl).1
          have x1 := (q9.x 1 _ rfl).1
          have x2 := (q9.x 2 _ rfl).1
          have x3 := (q9.x 3 _ rfl).1
          have x4 := (q9.x 4 _ rfl).1
          obtain ⟨hRR, hEE, hCC, hFF⟩ := QF
          have z0 := (hRR 0 _ rfl).1
          have z1 := (hRR 1 _ rfl).1
          have z2 := (hRR 2 _ rfl).1
          have z3 := (hRR 3 _ rfl).1
          have z4 := (hRR 4 _ rfl).1
          clear q9 hRR
          go_wp2
          refine bodyPost_ret (by simp [results, Tryz.results95, go_sem, z0, z1, z2, z3, z4]; try rfl) rfl ?_
          exact ⟨A1, c1, f, A2, c2, n, A', c', L2, A4, c4, r, A5, c5, h, rfl, hEE, hCC.more (by omega), hFF⟩
        · go_simp
          have q15 := q13.alloc (.cells #[.string x.f, .int .i64 x.n, .string x.b] 33)
          have hsl1 := sl_oneM V13 x
          refine hK.out _ _ trivial (fun _ => ?_)
          clear hK K
          simp only [List.setIfInBounds_toArray, List.set_cons_zero, List.set_cons_succ]
          obtain ⟨pv, hpv⟩ : ∃ pv, pv = V13.heap.size := ⟨_, rfl⟩
          rw [← hpv] at hsl1 ⊢
          clear q13 hpv
          generalize V13.alloc (.cells #[.string x.f, .int .i64 x.n, .string x.b] 33) = V15 at q15 hsl1 ⊢
          refine wpAnyH_ready (rs := [2]) (by kernel_rfl) (by simp) ?_
          refine AllReadyH.consL rfl (fun K hK => ?_) AllReadyH.nil
          have b2 := (q15.x 2 _ rfl).1
          go_simp
          clear b2
          refine hK.out _ _ trivial (fun _ => ?_)
          clear hK K
          simp only [List.setIfInBounds_toArray, List.set_cons_zero, List.set_cons_succ]
          refine wpAnyH_ready (rs := [6]) (by kernel_rfl) (by simp) ?_
          refine AllReadyH.consL rfl (fun K hK => ?_) AllReadyH.nil
          rw [if_pos (by rfl)]
          obtain ⟨l1_, h1_, l2_, h2_, _, _, _, _, _, OC, _⟩ := id q15.e
          have hszb : w.heap.size + 1 ≤ V15.heap.size := by have := q15.lt; have := q15.hx; omega
          have hsl_ := hEF.2.2.1.1
          refine wp_append_all V15 (.tmp 107) (.tmp 110) _ rfl i0 _ _ Tryz.underlying24 hi0 hv0 hv1 hv2 rfl (by omega) Msg.len Msg.one OC.o1 hsl1 rfl rfl (by simp only [List.length_cons, List.length_nil]; unfold maxLen; omega) (by simp only [List.length_cons, List.length_nil]; omega) hszb ?_
          intro A' c' U hO2 hb2 hbut hdis
          obtain ⟨L2, hL2⟩ : ∃ L2, Hid (L2 = s ++ [x]) := ⟨_, Lib.hid rfl⟩
          rw [← hL2.out] at hO2 ⊢
          have y2 := ((q15.x.same (hbut bx q15.lt (fun a ea eb => by obtain ⟨_, _, _, _, _, _, _, _, _, _, _, y⟩ := q15.e; exact (y bx (by simp)).2.1 a _ ea rfl eb))) 2 _ rfl)
          obtain ⟨y2, y2f⟩ := y2
          have q9 := q15.app hEF hL12 (by omega) hpb hx hL2.out hO2 hb2 hbut hdis
          clear hb2 hbut hdis hO2 hL2 q15 hsl1 OC hszb hsl_
          refine hK.out _ _ trivial (fun _ => ?_)
          clear hK K
          simp only [Act.put, List.setIfInBounds_toArray, List.set_cons_zero, List.set_cons_succ]
          refine wpAnyH_takeL (i := 7) (v := .pointer (some ⟨bx, 2, none⟩)) rfl (by kernel_rfl) (by kernel_rfl) (by kernel_rfl) (fun _ _ _ h => h) (Or.inl ⟨by rfl, fun w' hSw => by go_simp⟩) trivial ?_
          simp only [Act.put, List.setIfInBounds_toArray, List.set_cons_zero, List.set_cons_succ]
          refine wpAnyH_takeL (i := 8) (v := .pointer (some ⟨bx, 2, none⟩)) rfl (by kernel_rfl) (by kernel_rfl) (by kernel_rfl) (fun _ _ _ h => h) (Or.inl ⟨by rfl, fun w' hSw => by go_simp⟩) trivial ?_
          simp only [Act.put, List.setIfInBounds_toArray, List.set_cons_zero, List.set_cons_succ]
          refine wpAnyH_ready (rs := [9]) (by kernel_rfl) (by simp) ?_
          refine AllReadyH.consL rfl (fun K hK => ?_) AllReadyH.nil
          go_simp
          clear y2 y2f
          refine hK.out _ _ trivial (fun _ => ?_)
          clear hK K
          simp only [List.setIfInBounds_toArray, List.set_cons_zero, List.set_cons_succ]
          refine wpAnyH_done (by kernel_rfl) ?_ _
          generalize U.setCell ⟨bx, 2, none⟩ (.slice A' L2.length c') = U2 at q9 ⊢
          clear hi0 hv0 hv1 hv2
          have QF := q9.fin hpb
          have r0 := (q9.z 0 _ rfl).1
          have r1 := (q9.z 1 _ rfl).1
          have r2 := (q9.z 2 _ rfl).1
          have r3 := (q9.z 3 _ rfl).1
          have r4 := (q9.z 4 _ rfl).1
          have g0 := (q9.z 0 _ rfl).2
          have g1 := (q9.z 1 _ rfl).2
          have g2 := (q9.z 2 _ rfl).2
          have g3 := (q9.z 3 _ rfl).2
          have g4 := (q9.z 4 _ rfl).2
          have x0 := (q9.x 0 _ rfl).1
          have x1 := (q9.x 1 _ rfl).1
          have x2 := (q9.x 2 _ rfl).1
          have x3 := (q9.x 3 _ rfl).1
          have x4 := (q9.x 4 _ rfl).1
          obtain ⟨hRR, hEE, hCC, hFF⟩ := QF
          have z0 := (hRR 0 _ rfl).1
          have z1 := (hRR 1 _ rfl).1
          have z2 := (hRR 2 _ rfl).1
          have z3 := (hRR 3 _ rfl).1
          have z4 := (hRR 4 _ rfl).1
          clear q9 hRR
          go_wp2
          refine bodyPost_ret (by simp [results, Tryz.results95, go_sem, z0, z1, z2, z3, z4]; try rfl) rfl ?_
          exact ⟨A1, c1, f, A2, c2, n, A', c', L2, A4, c4, r, A5, c5, h, rfl, hEE, hCC.more (by omega), hFF⟩
    have s1 : ((k5 : Int) == 1) = false := by simp; omega
    clear hi0 hv0 hv1 hv2
    by_cases e2 : k5 = 2
    · have s2_ : ((k5 : Int) == 2) = true := by simp [e2]
      clear e0 e1 e2
      go_wp2_with fail
      refine (fleet_any pb A c l (N + 362) 4 _ q.cur (by omega) (by omega)).mono ?_
      rintro e w9 ⟨B2, d2, L2, rfl, hl2, hm2, hO2, hC2, hFn⟩
      have q9 := q.first hEF hL12 (by omega) hpb hFn hC2 hO2 hl2 hm2
      have qs := q.step hpb hFn hC2
      have y0 := (qs.x 0 _ rfl).1
      have y0f := (qs.x 0 _ rfl).2
      clear q qs hFn hC2 hO2
      have QF := q9.fin hpb
      have r0 := (q9.z 0 _ rfl).1
      have r1 := (q9.z 1 _ rfl).1
      have r2 := (q9.z 2 _ rfl).1
      have r3 := (q9.z 3 _ rfl).1
      have r4 := (q9.z 4 _ rfl).1
      have g0 := (q9.z 0 _ rfl).2
      have g1 := (q9.z 1 _ rfl).2
      have g2 := (q9.z 2 _ rfl).2
      have g3 := (q9.z 3 _ rfl).2
      have g4 := (q9.z 4 _ rfl).2
      have x0 := (q9.x 0 _ rfl).1
      have x1 := (q9.x 1 _ rfl).1
      have x2 := (q9.x 2 _ rfl).1
      have x3 := (q9.x 3 _ rfl).1
      have x4 := (q9.x 4 _ rfl).1
      obtain ⟨hRR, hEE, hCC, hFF⟩ := QF
      have z0 := (hRR 0 _ rfl).1
      have z1 := (hRR 1 _ rfl).1
      have z2 := (hRR 2 _ rfl).1
      have z3 := (hRR 3 _ rfl).1
      have z4 := (hRR 4 _ rfl).1
      clear q9 hRR
      go_wp2
      refine bodyPost_ret (by simp [results, Tryz.results95, go_sem, z0, z1, z2, z3, z4]; try rfl) rfl ?_
      exact ⟨B2, d2, L2, A2, c2, n, A3, c3, s, A4, c4, r, A5, c5, h, rfl, hEE, hCC.more (by omega), hFF⟩
    have s2_ : ((k5 : Int) == 2) = false := by simp; omega
    clear e0 e1 e2
    have q9 := q.ez hEF hL12 (by omega)
    clear q
    have QF := q9.fin hpb
    have r0 := (q9.z 0 _ rfl).1
    have r1 := (q9.z 1 _ rfl).1
    have r2 := (q9.z 2 _ rfl).1
    have r3 := (q9.z 3 _ rfl).1
    have r4 := (q9.z 4 _ rfl).1
    have g0 := (q9.z 0 _ rfl).2
    have g1 := (q9.z 1 _ rfl).2
    have g2 := (q9.z 2 _ rfl).2
    have g3 := (q9.z 3 _ rfl).2
    have g4 := (q9.z 4 _ rfl).2
    have x0 := (q9.x 0 _ rfl).1
    have x1 := (q9.x 1 _ rfl).1
    have x2 := (q9.x 2 _ rfl).1
    have x3 := (q9.x 3 _ rfl).1
    have x4 := (q9.x 4 _ rfl).1
    obtain ⟨hRR, hEE, hCC, hFF⟩ := QF
    have z0 := (hRR 0 _ rfl).1
    have z1 := (hRR 1 _ rfl).1
    have z2 := (hRR 2 _ rfl).1
    have z3 := (hRR 3 _ rfl).1
    have z4 := (hRR 4 _ rfl).1
    clear q9 hRR
    go_wp2
    refine bodyPost_ret (by simp [results, Tryz.results95, go_sem, z0, z1, z2, z3, z4]; try rfl) rfl ?_
    exact ⟨A1, c1, f, A2, c2, n, A3, c3, s, A4, c4, r, A5, c5, h, rfl, hEE, hCC.more (by omega), hFF⟩
end Go.Proofs.YtjmjilkpckbpeaaGreatDoor

/- Ends as the great laws hold them. No conditions. -/
import Derived.Test.YtjmjilkpckbpeaaGreatDoorEndO
import Derived.Test.YtjmjilkpckbpeaaGreatDoorEndHP
namespace Go.Proofs.YtjmjilkpckbpeaaGreatDoor
open Go.RowKit

section
variable {W W' : World} {base : Nat} {A1 : Option Addr} {c1 : Nat} {f : List App} {A2 : Option Addr} {c2 : Nat} {n : List App} {A3 : Option Addr} {c3 : Nat} {s : List Msg} {A4 : Option Addr} {c4 : Nat} {r : List Msg} {A5 : Option Addr} {c5 : Nat} {h : List Msg}
/-- The rows of ends. -/
structure ER (W : World) (A1 : Option Addr) (f : List App) (A2 : Option Addr) (n : List App) (A3 : Option Addr) (s : List Msg) (A4 : Option Addr) (r : List Msg) (A5 : Option Addr) (h : List Msg) : Prop where
  p1 : Apps W 0 W.heap.size A1 f
  p2 : Apps W 0 W.heap.size A2 n
  p3 : Msgs W 0 W.heap.size A3 s
  p4 : Msgs W 0 W.heap.size A4 r
  p5 : Msgs W 0 W.heap.size A5 h
theorem ER.below (q : ER W A1 f A2 n A3 s A4 r A5 h) (hb : Below W.heap.size W W') : ER W' A1 f A2 n A3 s A4 r A5 h :=
  ⟨(q.p1.below hb).all, (q.p2.below hb).all, (q.p3.below hb).all, (q.p4.below hb).all, (q.p5.below hb).all⟩
theorem IntE.er (o : IntE W base A1 f A2 n A3 s A4 r A5 h) : ER W A1 f A2 n A3 s A4 r A5 h := by
  obtain ⟨l1, h1, l2, h2, lc, hc, l3, h3, l4, h4, l5, h5, S1, S2, S3, S4, S5, B1, B2, BC, B3, B4, B5, _⟩ := o
  exact ⟨S1.mono (Nat.zero_le _) B1.2.2 (Nat.le_refl _), S2.mono (Nat.zero_le _) B2.2.2 (Nat.le_refl _), S3.mono (Nat.zero_le _) (by omega) (Nat.le_refl _), S4.mono (Nat.zero_le _) (by omega) (Nat.le_refl _), S5.mono (Nat.zero_le _) (by omega) (Nat.le_refl _)⟩
theorem ER.ea (q : ER W A1 f A2 n A3 s A4 r A5 h) (e : EL f n s r h) (k3 : s.length ≤ c3) (k4 : r.length ≤ c4) (k5 : h.length ≤ c5) : EA W A1 c1 f A2 c2 n A3 c3 s A4 c4 r A5 c5 h :=
  ⟨e.f.1, e.f.2, q.p1, e.n.1, e.n.2, q.p2, e.s.1, e.s.2, q.p3, k3, e.r.1, e.r.2, q.p4, k4, e.h.1, e.h.2, q.p5, k5⟩
theorem EA.er (q : EA W A1 c1 f A2 c2 n A3 c3 s A4 c4 r A5 c5 h) : ER W A1 f A2 n A3 s A4 r A5 h := ⟨q.Sf, q.Sn, q.Ss, q.Sr, q.Sh⟩
theorem EA.el (q : EA W A1 c1 f A2 c2 n A3 c3 s A4 c4 r A5 c5 h) : EL f n s r h := ⟨⟨q.lf, q.mf⟩, ⟨q.ln, q.mn⟩, ⟨q.ls, q.ms⟩, ⟨q.lr, q.mr⟩, ⟨q.lh, q.mh⟩⟩
end
/-- The call returned ends whose lists can be read, with room enough, and a bool. -/
def REX (w : World) (f n : List App) (s r h : List Msg) (B : Bool) (e : Ending) (w' : World) : Prop :=
  ∃ A1 c1 A2 c2 A3 c3 A4 c4 A5 c5, e = .returned (.tuple #[.agg #[.slice A1 f.length c1, .slice A2 n.length c2, .slice A3 s.length c3, .slice A4 r.length c4, .slice A5 h.length c5], .bool B]) ∧ EA w' A1 c1 f A2 c2 n A3 c3 s A4 c4 r A5 c5 h ∧ Below w.heap.size w w'
/-- The call returned ends whose lists can be read, and a bool. -/
def RER (w : World) (f n : List App) (s r h : List Msg) (B : Bool) (e : Ending) (w' : World) : Prop :=
  ∃ A1 c1 A2 c2 A3 c3 A4 c4 A5 c5, e = .returned (.tuple #[.agg #[.slice A1 f.length c1, .slice A2 n.length c2, .slice A3 s.length c3, .slice A4 r.length c4, .slice A5 h.length c5], .bool B]) ∧ ER w' A1 f A2 n A3 s A4 r A5 h ∧ Below w.heap.size w w'
section
variable {w w' : World} {e : Ending} {f n l l1 l2 : List App} {s r h : List Msg} {B : Bool} {t : EnT}
theorem RENC.rex (o : RENC w t e w') (ht : t = ((f, n, s, r, h), B)) (k : EL f n s r h) : REX w f n s r h B e w' := by
  subst ht
  obtain ⟨A1, c1, A2, c2, A3, c3, A4, c4, A5, c5, he, hI, ⟨k3, k4, k5⟩, hb⟩ := o
  exact ⟨A1, c1, A2, c2, A3, c3, A4, c4, A5, c5, he, hI.er.ea k k3 k4 k5, hb⟩
theorem RENT.rer (o : RENT w t e w') (ht : t = ((f, n, s, r, h), B)) : RER w f n s r h B e w' := by
  subst ht
  obtain ⟨A1, c1, A2, c2, A3, c3, A4, c4, A5, c5, he, hI, hb⟩ := o
  exact ⟨A1, c1, A2, c2, A3, c3, A4, c4, A5, c5, he, hI.er, hb⟩
theorem REB.rex (o : REB w l1 l2 B e w') (k : EL l1 l2 [] [] []) : REX w l1 l2 [] [] [] B e w' := by
  obtain ⟨A1, c1, A2, c2, m, he, S1, S2, h1, h2, hb⟩ := o
  exact ⟨A1, c1, A2, c2, none, 0, none, 0, none, 0, he, (ER.mk (S1.mono (Nat.zero_le _) h2 (Nat.le_refl _)) (S2.mono (Nat.zero_le _) (Nat.le_refl _) (Nat.le_refl _)) Sl.nil_ Sl.nil_ Sl.nil_).ea k (Nat.le_refl _) (Nat.le_refl _) (Nat.le_refl _), hb⟩
end
/-- A fleet, a list of texts that can be read. -/
structure AM (W : World) (A : Option Addr) (l : List App) : Prop where
  p : Apps W 0 W.heap.size A l
theorem AM.below {W W' : World} {A : Option Addr} {l : List App} (q : AM W A l) (hb : Below W.heap.size W W') : AM W' A l := ⟨(q.p.below hb).all⟩
structure SM (W : World) (A : Option Addr) (l : List ByteArray) : Prop where
  p : Strs W 0 W.heap.size A l
theorem SM.below {W W' : World} {A : Option Addr} {l : List ByteArray} (q : SM W A l) (hb : Below W.heap.size W W') : SM W' A l := ⟨(q.p.below hb).all⟩
theorem neqB (b : Bool) : (b != b) = false := by simp
end Go.Proofs.YtjmjilkpckbpeaaGreatDoor

/- Channels in memory as the great laws hold them; IsChannel of the program. Condition: at most 2^20 messages in each list, texts of at most 2^20. -/
import Derived.Test.YtjmjilkpckbpeaaGreatDoorSndI
import Derived.Test.YtjmjilkpckbpeaaGreatDoorCur
import Derived.Test.YtjmjilkpckbpeaaGreatDoorLA
import Derived.Test.YtjmjilkpckbpeaaGreatDoorLD
import Derived.Test.YtjmjilkpckbpeaaGreatDoorChanN
namespace Go.Proofs.YtjmjilkpckbpeaaGreatDoor
open Go.RowKit

structure CM (W : World) (A1 : Option Addr) (c1 : Nat) (s : List Msg) (A2 : Option Addr) (c2 : Nat) (r : List Msg) (A3 : Option Addr) (c3 : Nat) (h : List Msg) : Prop where
  l1 : s.length ≤ 1048576
  m1 : ∀ y ∈ s, y.f.size ≤ 1048576 ∧ y.b.size ≤ 1048576
  p1 : Msgs W 0 W.heap.size A1 s
  k1 : s.length ≤ c1
  l2 : r.length ≤ 1048576
  m2 : ∀ y ∈ r, y.f.size ≤ 1048576 ∧ y.b.size ≤ 1048576
  p2 : Msgs W 0 W.heap.size A2 r
  k2 : r.length ≤ c2
  l3 : h.length ≤ 1048576
  m3 : ∀ y ∈ h, y.f.size ≤ 1048576 ∧ y.b.size ≤ 1048576
  p3 : Msgs W 0 W.heap.size A3 h
  k3 : h.length ≤ c3
section
variable {W W' : World} {A1 : Option Addr} {c1 : Nat} {s : List Msg} {A2 : Option Addr} {c2 : Nat} {r : List Msg} {A3 : Option Addr} {c3 : Nat} {h : List Msg}
theorem CM.below (q : CM W A1 c1 s A2 c2 r A3 c3 h) (hb : Below W.heap.size W W') : CM W' A1 c1 s A2 c2 r A3 c3 h :=
  ⟨q.l1, q.m1, (q.p1.below hb).all, q.k1, q.l2, q.m2, (q.p2.below hb).all, q.k2, q.l3, q.m3, (q.p3.below hb).all, q.k3⟩
theorem CM.alloc (q : CM W A1 c1 s A2 c2 r A3 c3 h) (o : Obj) : CM (W.alloc o) A1 c1 s A2 c2 r A3 c3 h := q.below ((Below.refl _ _).alloc (Nat.le_refl _) o)
/-- A channel of the call's own. -/
theorem CM.own {base : Nat} (o : OwnC W base A1 c1 s A2 c2 r A3 c3 h) (l1 : s.length ≤ 1048576) (m1 : ∀ y ∈ s, y.f.size ≤ 1048576 ∧ y.b.size ≤ 1048576) (l2 : r.length ≤ 1048576) (m2 : ∀ y ∈ r, y.f.size ≤ 1048576 ∧ y.b.size ≤ 1048576) (l3 : h.length ≤ 1048576) (m3 : ∀ y ∈ h, y.f.size ≤ 1048576 ∧ y.b.size ≤ 1048576) : CM W A1 c1 s A2 c2 r A3 c3 h :=
  ⟨l1, m1, (o.o1.sl Msg.len).all, o.o1.cap, l2, m2, (o.o2.sl Msg.len).all, o.o2.cap, l3, m3, (o.o3.sl Msg.len).all, o.o3.cap⟩
end
theorem IntC.rows {w : World} {base : Nat} {A1 A2 A3 : Option Addr} {s r h : List Msg} (o : IntC w base A1 s A2 r A3 h) : Msgs w 0 w.heap.size A1 s ∧ Msgs w 0 w.heap.size A2 r ∧ Msgs w 0 w.heap.size A3 h := by
  obtain ⟨l1, h1, l2, h2, l3, h3, S1, S2, S3, B1, B2, B3, d⟩ := o
  exact ⟨S1.mono (Nat.zero_le _) B1.2.2 (Nat.le_refl _), S2.mono (Nat.zero_le _) B2.2.2 (Nat.le_refl _), S3.mono (Nat.zero_le _) B3.2.2 (Nat.le_refl _)⟩
/-- A channel's rows. -/
structure MR (W : World) (A1 : Option Addr) (s : List Msg) (A2 : Option Addr) (r : List Msg) (A3 : Option Addr) (h : List Msg) : Prop where
  p1 : Msgs W 0 W.heap.size A1 s
  p2 : Msgs W 0 W.heap.size A2 r
  p3 : Msgs W 0 W.heap.size A3 h
section
variable {W W' : World} {A1 : Option Addr} {c1 : Nat} {s : List Msg} {A2 : Option Addr} {c2 : Nat} {r : List Msg} {A3 : Option Addr} {c3 : Nat} {h : List Msg}
theorem MR.below (q : MR W A1 s A2 r A3 h) (hb : Below W.heap.size W W') : MR W' A1 s A2 r A3 h := ⟨(q.p1.below hb).all, (q.p2.below hb).all, (q.p3.below hb).all⟩
theorem IntC.mr {base : Nat} (o : IntC W base A1 s A2 r A3 h) : MR W A1 s A2 r A3 h := ⟨o.rows.1, o.rows.2.1, o.rows.2.2⟩
theorem OwnC.mr {base : Nat} (o : OwnC W base A1 c1 s A2 c2 r A3 c3 h) : MR W A1 s A2 r A3 h := ⟨(o.o1.sl Msg.len).all, (o.o2.sl Msg.len).all, (o.o3.sl Msg.len).all⟩
theorem CM.mr (q : CM W A1 c1 s A2 c2 r A3 c3 h) : MR W A1 s A2 r A3 h := ⟨q.p1, q.p2, q.p3⟩
end
/-- The call returned a channel in rows of its own, and a bool. -/
def RCX (w : World) (s r h : List Msg) (B : Bool) (e : Ending) (w' : World) : Prop :=
  ∃ A1 c1 A2 c2 A3 c3, e = .returned (.tuple #[.agg #[.slice A1 s.length c1, .slice A2 r.length c2, .slice A3 h.length c3], .bool B]) ∧ OwnC w' w.heap.size A1 c1 s A2 c2 r A3 c3 h ∧ Below w.heap.size w w'
set_option maxHeartbeats 2000000 in
theorem IsChannel_impl (As : Option Addr) (cs : Nat) (s : List Msg) (Ar : Option Addr) (cr : Nat) (r : List Msg) (Ah : Option Addr) (ch : Nat) (h : List Msg) (w : World) (hls : s.length ≤ 1048576) (hms : ∀ y ∈ s, y.f.size ≤ 1048576 ∧ y.b.size ≤ 1048576) (hSs : Msgs w 0 w.heap.size As s) (hcs : s.length ≤ cs) (hlr : r.length ≤ 1048576) (hmr : ∀ y ∈ r, y.f.size ≤ 1048576 ∧ y.b.size ≤ 1048576) (hSr : Msgs w 0 w.heap.size Ar r) (hcr : r.length ≤ cr) (hlh : h.length ≤ 1048576) (hmh : ∀ y ∈ h, y.f.size ≤ 1048576 ∧ y.b.size ≤ 1048576) (hSh : Msgs w 0 w.heap.size Ah h) (hch : h.length ≤ ch) : Calls Tryz.prog 12 #[.agg #[.slice As s.length cs, .slice Ar r.length cr, .slice Ah h.length ch]] w (RV w (.bool (chanB s r h))) := by
  have hX := B3.new w (.slice As s.length cs) (.slice Ar r.length cr) (.slice Ah h.length ch) 26 _ rfl
  go_enter Tryz.func12, Tryz.ntmps12
  go_wp2_with fail
  refine (isChannel_any w.heap.size 0 As cs s Ar cr r Ah ch h _ hX.c3 hls hms (hSs.alloc _).all hcs hlr hmr (hSr.alloc _).all hcr hlh hmh (hSh.alloc _).all hch).mono ?_
  rintro e v1 ⟨rfl, hb⟩
  have hB : Below w.heap.size w v1 := Below.on' (by go_grown) hb
  clear hb
  go_wp2
  go_ret
  exact RV.mk rfl hB
def AnyB (W : World) (e : Ending) (w' : World) : Prop := ∃ v : Bool, e = .returned (.bool v) ∧ Below W.heap.size W w'
theorem big_any (A B : Option Addr) (c d : Nat) (l m : List Int) (W : World) (hl : l.length ≤ maxLen) (_hm : m.length ≤ maxLen) :
    Calls Tryz.prog 6 #[.slice A l.length c, .slice B m.length d] W (AnyB W) := by
  unfold maxLen at hl
  by_cases h : 1048576 < l.length
  · have h' : (1048576 : Int) < l.length := by omega
    go_enter Tryz.func6, Tryz.ntmps6
    go_wp2
    go_ret
    exact ⟨_, rfl, by go_grown⟩
  · have h' : ¬ (1048576 : Int) < l.length := by omega
    go_enter Tryz.func6, Tryz.ntmps6
    go_wp2
    go_ret
    exact ⟨_, rfl, by go_grown⟩
end Go.Proofs.YtjmjilkpckbpeaaGreatDoor

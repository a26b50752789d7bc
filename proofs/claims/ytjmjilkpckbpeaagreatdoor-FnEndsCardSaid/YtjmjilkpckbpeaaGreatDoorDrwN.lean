/- Drawing a channel: what it returns, and that only the cursor changes. Conditions: a valid cursor, fewer than 2^39 steps. -/
import Derived.Test.YtjmjilkpckbpeaaGreatDoorDrw
import Derived.Test.YtjmjilkpckbpeaaGreatDoorSndC
import Derived.Test.YtjmjilkpckbpeaaGreatDoorLD
import Derived.Test.YtjmjilkpckbpeaaGreatDoorLA
import Derived.Deep.Cut
import Derived.Deep.CutRange
namespace Go.Proofs.YtjmjilkpckbpeaaGreatDoor
open Go.RowKit

def sm (l : List Msg) : Prop := ∀ y ∈ l, y.f.size ≤ 7 ∧ y.b.size ≤ 13
theorem sm.nil : sm [] := fun _ h => by cases h
theorem sm.app {a b : List Msg} (h1 : sm a) (h2 : sm b) : sm (a ++ b) := fun y hy => (List.mem_append.1 hy).elim (h1 y) (h2 y)
theorem sm.one {m : Msg} (h : m.f.size ≤ 7 ∧ m.b.size ≤ 13) : sm [m] := fun y hy => by rw [List.mem_singleton.1 hy]; exact h
theorem sm.big {l : List Msg} (h : sm l) : ∀ y ∈ l, y.f.size ≤ 1048576 ∧ y.b.size ≤ 1048576 := fun y hy => by have := h y hy; omega
theorem sm.add {l : List Msg} {m : Msg} (h : sm l) (hm : m.f.size ≤ 7 ∧ m.b.size ≤ 13) : sm (addW l m) ∧ (addW l m).length ≤ l.length + 1 := by
  unfold addW
  split
  · exact ⟨h, Nat.le_succ _⟩
  · exact ⟨h.app (sm.one hm), by simp⟩
theorem snd_ok {s r h : List Msg} {f b : ByteArray} (g : (sndT s r h f b).2 = true) : sndT s r h f b = ((s ++ [⟨f, (cntM s f : Int) + 1, b⟩], r, h), true) := by
  unfold sndT at g ⊢
  split at g
  · rename_i k; rw [if_pos k]
  · cases g
theorem Fr.moreN {lo hi B : Nat} {w W W' : World} (h : Fr lo hi w W) (k : Below B W W') (hB : w.heap.size ≤ B) : Fr lo hi w W' :=
  ⟨k.os.trans h.os, k.tape.trans h.tape, k.output.trans h.output, Nat.le_trans h.size k.size, fun b hb hd => (k.block b (by omega)).trans (h.block b hb hd)⟩
/-- A channel under way: its box, its rows, the result's box, the cursor. -/
structure CQ (w : World) (pb : Nat) (A : Option Addr) (c : Nat) (l : List Int) (N : Nat) (A1 : Option Addr) (c1 : Nat) (s : List Msg) (A2 : Option Addr) (c2 : Nat) (r : List Msg) (A3 : Option Addr) (c3 : Nat) (h : List Msg) (W : World) : Prop where
  x : B3 (w.heap.size + 1) (.slice A1 s.length c1) (.slice A2 r.length c2) (.slice A3 h.length c3) W
  o : OwnC W (w.heap.size + 2) A1 c1 s A2 c2 r A3 c3 h
  z : BN w.heap.size [.slice none 0 0, .slice none 0 0, .slice none 0 0] W
  cur : Cur pb A c l N W
  fr : Fr pb (pb + 1) w W
section
variable {w W W' : World} {pb c N M : Nat} {A : Option Addr} {l : List Int} {A1 : Option Addr} {c1 : Nat} {s : List Msg} {A2 : Option Addr} {c2 : Nat} {r : List Msg} {A3 : Option Addr} {c3 : Nat} {h : List Msg}
theorem CQ.size (q : CQ w pb A c l N A1 c1 s A2 c2 r A3 c3 h W) : w.heap.size + 2 ≤ W.heap.size := q.x.lt
theorem CQ.step (q : CQ w pb A c l N A1 c1 s A2 c2 r A3 c3 h W) (hp : pb < w.heap.size) (hF : Fr pb (pb + 1) W W') (hC : Cur pb A c l M W') : CQ w pb A c l M A1 c1 s A2 c2 r A3 c3 h W' :=
  ⟨q.x.same (hF.block _ q.x.lt (by omega)), q.o.far hF (by omega), q.z.fr hF (by simp) (by omega), hC, q.fr.trans hF⟩
theorem CQ.below (q : CQ w pb A c l N A1 c1 s A2 c2 r A3 c3 h W) (hb : Below W.heap.size W W') : CQ w pb A c l N A1 c1 s A2 c2 r A3 c3 h W' := ⟨q.x.below hb, q.o.below hb, q.z.below (by simp) hb, q.cur.below hb, q.fr.on hb⟩
theorem CQ.alloc (q : CQ w pb A c l N A1 c1 s A2 c2 r A3 c3 h W) (o : Obj) : CQ w pb A c l N A1 c1 s A2 c2 r A3 c3 h (W.alloc o) := q.below ((Below.refl _ _).alloc (Nat.le_refl _) o)
theorem CQ.drew (q : CQ w pb A c l N A1 c1 s A2 c2 r A3 c3 h W) : CQ w pb A c l N A1 c1 s A2 c2 r A3 c3 h W.drew := q.below (Below.refl _ _).drew
theorem CQ.more (q : CQ w pb A c l N A1 c1 s A2 c2 r A3 c3 h W) (hM : N ≤ M) : CQ w pb A c l M A1 c1 s A2 c2 r A3 c3 h W := ⟨q.x, q.o, q.z, q.cur.more hM, q.fr⟩
theorem CQ.other {g : Nat} (q : CQ w pb A c l N A1 c1 s A2 c2 r A3 c3 h W) (hp : pb < w.heap.size) (hg : w.heap.size + 2 ≤ g) (hF : Fr g (g + 1) W W') (d1 : Dis A1 (some ⟨g, 0, none⟩)) (d2 : Dis A2 (some ⟨g, 0, none⟩)) (d3 : Dis A3 (some ⟨g, 0, none⟩)) : CQ w pb A c l N A1 c1 s A2 c2 r A3 c3 h W' := by
  have hs := q.size
  exact ⟨q.x.same (hF.block _ q.x.lt (by omega)), q.o.apart hF d1 d2 d3, q.z.fr hF (by simp) (by omega), q.cur.upto (B := pb + 1) (Nat.lt_succ_self _) (hF.below (by omega) (by omega)), q.fr.moreN (hF.below (B := w.heap.size) (by omega) (by omega)) (Nat.le_refl _)⟩
theorem CQ.far {g : Nat} (q : CQ w pb A c l N A1 c1 s A2 c2 r A3 c3 h W) (hg : W.heap.size ≤ g) : Dis A1 (some ⟨g, 0, none⟩) ∧ Dis A2 (some ⟨g, 0, none⟩) ∧ Dis A3 (some ⟨g, 0, none⟩) := by
  have key : ∀ {B : Option Addr} {k : Nat} {L : List Msg}, Own Msg.cells 3 33 W (w.heap.size + 2) B k L → Dis B (some ⟨g, 0, none⟩) := fun ho a a' e e' z => by
    injection e' with e'
    have := ho.blk a e
    rw [z, ← e'] at this
    have := this.2
    simp only at this
    omega
  exact ⟨key q.o.o1, key q.o.o2, key q.o.o3⟩
theorem CQ.put {D1 : Option Addr} {e1 : Nat} {s2 : List Msg} {D2 : Option Addr} {e2 : Nat} {r2 : List Msg} {D3 : Option Addr} {e3 : Nat} {h2 : List Msg} (q : CQ w pb A c l N A1 c1 s A2 c2 r A3 c3 h W) (hp : pb < w.heap.size) (o : OwnC W (w.heap.size + 2) D1 e1 s2 D2 e2 r2 D3 e3 h2) : CQ w pb A c l N D1 e1 s2 D2 e2 r2 D3 e3 h2 (((W.setCell ⟨w.heap.size + 1, 0, none⟩ (.slice D1 s2.length e1)).setCell ⟨w.heap.size + 1, 1, none⟩ (.slice D2 r2.length e2)).setCell ⟨w.heap.size + 1, 2, none⟩ (.slice D3 h2.length e3)) :=
  ⟨(((q.x.set0 _).set1 _).set2 _), o.far ((((Fr.refl (w.heap.size + 1) (w.heap.size + 1 + 1) W).setCell (p := ⟨w.heap.size + 1, 0, none⟩) ⟨Nat.le_refl _, Nat.lt_succ_self _⟩ _).setCell (p := ⟨w.heap.size + 1, 1, none⟩) ⟨Nat.le_refl _, Nat.lt_succ_self _⟩ _).setCell (p := ⟨w.heap.size + 1, 2, none⟩) ⟨Nat.le_refl _, Nat.lt_succ_self _⟩ _) (Nat.le_refl _), (((q.z.off (p := ⟨w.heap.size + 1, 0, none⟩) (by simp) _).off (p := ⟨w.heap.size + 1, 1, none⟩) (by simp) _).off (p := ⟨w.heap.size + 1, 2, none⟩) (by simp) _), (((q.cur.set (p := ⟨w.heap.size + 1, 0, none⟩) (by simp; omega) _).set (p := ⟨w.heap.size + 1, 1, none⟩) (by simp; omega) _).set (p := ⟨w.heap.size + 1, 2, none⟩) (by simp; omega) _), (((q.fr.setNew (p := ⟨w.heap.size + 1, 0, none⟩) (by simp) _).setNew (p := ⟨w.heap.size + 1, 1, none⟩) (by simp) _).setNew (p := ⟨w.heap.size + 1, 2, none⟩) (by simp) _)⟩
theorem CQ.put0 {D : Option Addr} {e : Nat} {L : List Msg} (q : CQ w pb A c l N A1 c1 s A2 c2 r A3 c3 h W) (hp : pb < w.heap.size) (o : OwnC W (w.heap.size + 2) D e L A2 c2 r A3 c3 h) : CQ w pb A c l N D e L A2 c2 r A3 c3 h (W.setCell ⟨w.heap.size + 1, 0, none⟩ (.slice D L.length e)) :=
  ⟨(q.x.set0 _), o.far ((Fr.refl (w.heap.size + 1) (w.heap.size + 1 + 1) W).setCell (p := ⟨w.heap.size + 1, 0, none⟩) ⟨Nat.le_refl _, Nat.lt_succ_self _⟩ _) (Nat.le_refl _), (q.z.off (p := ⟨w.heap.size + 1, 0, none⟩) (by simp) _), (q.cur.set (p := ⟨w.heap.size + 1, 0, none⟩) (by simp; omega) _), (q.fr.setNew (p := ⟨w.heap.size + 1, 0, none⟩) (by simp) _)⟩
theorem CQ.put1 {D : Option Addr} {e : Nat} {L : List Msg} (q : CQ w pb A c l N A1 c1 s A2 c2 r A3 c3 h W) (hp : pb < w.heap.size) (o : OwnC W (w.heap.size + 2) A1 c1 s D e L A3 c3 h) : CQ w pb A c l N A1 c1 s D e L A3 c3 h (W.setCell ⟨w.heap.size + 1, 1, none⟩ (.slice D L.length e)) :=
  ⟨(q.x.set1 _), o.far ((Fr.refl (w.heap.size + 1) (w.heap.size + 1 + 1) W).setCell (p := ⟨w.heap.size + 1, 1, none⟩) ⟨Nat.le_refl _, Nat.lt_succ_self _⟩ _) (Nat.le_refl _), (q.z.off (p := ⟨w.heap.size + 1, 1, none⟩) (by simp) _), (q.cur.set (p := ⟨w.heap.size + 1, 1, none⟩) (by simp; omega) _), (q.fr.setNew (p := ⟨w.heap.size + 1, 1, none⟩) (by simp) _)⟩
theorem CQ.put2 {D : Option Addr} {e : Nat} {L : List Msg} (q : CQ w pb A c l N A1 c1 s A2 c2 r A3 c3 h W) (hp : pb < w.heap.size) (o : OwnC W (w.heap.size + 2) A1 c1 s A2 c2 r D e L) : CQ w pb A c l N A1 c1 s A2 c2 r D e L (W.setCell ⟨w.heap.size + 1, 2, none⟩ (.slice D L.length e)) :=
  ⟨(q.x.set2 _), o.far ((Fr.refl (w.heap.size + 1) (w.heap.size + 1 + 1) W).setCell (p := ⟨w.heap.size + 1, 2, none⟩) ⟨Nat.le_refl _, Nat.lt_succ_self _⟩ _) (Nat.le_refl _), (q.z.off (p := ⟨w.heap.size + 1, 2, none⟩) (by simp) _), (q.cur.set (p := ⟨w.heap.size + 1, 2, none⟩) (by simp; omega) _), (q.fr.setNew (p := ⟨w.heap.size + 1, 2, none⟩) (by simp) _)⟩
theorem CQ.rows (q : CQ w pb A c l N A1 c1 s A2 c2 r A3 c3 h W) : Msgs W 0 W.heap.size A1 s ∧ Msgs W 0 W.heap.size A2 r ∧ Msgs W 0 W.heap.size A3 h := ⟨(q.o.o1.sl Msg.len).all, (q.o.o2.sl Msg.len).all, (q.o.o3.sl Msg.len).all⟩
end
theorem sl_oneM (w : World) (x : Msg) : Msgs (w.alloc (.cells #[.string x.f, .int .i64 x.n, .string x.b] 33)) 0 (w.alloc (.cells #[.string x.f, .int .i64 x.n, .string x.b] 33)).heap.size (some ⟨w.heap.size, 0, none⟩) [x] := fun _ => by
  refine ⟨w.heap.size, 0, rfl, Nat.zero_le _, by simp, Nat.le_refl _, fun i y hy j v hv => ?_⟩
  cases i with
  | zero =>
    obtain rfl : x = y := by simpa using hy
    have := new_cells (E := Msg.cells) w 33 x _ rfl j v hv
    rw [show 0 + 0 * 3 + j = j by omega]
    exact ⟨this, World.frozen?_alloc_at _ _ _ _ rfl⟩
  | succ i => simp at hy
/-- A message sent or not: what the call leaves. -/
def SndR (w : World) (pn : Nat) (b : Bool) (s r h : List Msg) (W : World) : Prop := b = true → ∃ (m : Msg) (D1 : Option Addr) (e1 : Nat) (D2 : Option Addr) (e2 : Nat) (D3 : Option Addr) (e3 : Nat), (m.f.size ≤ 7 ∧ m.b.size ≤ 13) ∧ OwnC W (w.heap.size + 2) D1 e1 (s ++ [m]) D2 e2 r D3 e3 h ∧ BN pn [.slice D1 (s ++ [m]).length e1, .slice D2 r.length e2, .slice D3 h.length e3] W
theorem own_far {W : World} {base g : Nat} {A1 : Option Addr} {c1 : Nat} {s : List Msg} {A2 : Option Addr} {c2 : Nat} {r : List Msg} {A3 : Option Addr} {c3 : Nat} {h : List Msg} (o : OwnC W base A1 c1 s A2 c2 r A3 c3 h) (hg : W.heap.size ≤ g) : Dis A1 (some ⟨g, 0, none⟩) ∧ Dis A2 (some ⟨g, 0, none⟩) ∧ Dis A3 (some ⟨g, 0, none⟩) := by
  have key : ∀ {B : Option Addr} {k : Nat} {L : List Msg}, Own Msg.cells 3 33 W base B k L → Dis B (some ⟨g, 0, none⟩) := fun ho a a' e e' z => by
    injection e' with e'
    have := ho.blk a e
    rw [z, ← e'] at this
    have := this.2
    simp only at this
    omega
  exact ⟨key o.o1, key o.o2, key o.o3⟩
section
variable {w W U : World} {pb c N : Nat} {A : Option Addr} {l : List Int} {A1 : Option Addr} {c1 : Nat} {s : List Msg} {A2 : Option Addr} {c2 : Nat} {r : List Msg} {A3 : Option Addr} {c3 : Nat} {h : List Msg}
theorem CQ.app0 {D : Option Addr} {e : Nat} {L : List Msg} (q : CQ w pb A c l N A1 c1 s A2 c2 r A3 c3 h W) (hp : pb < w.heap.size) (hb : Below (w.heap.size + 2) W U) (o : OwnC U (w.heap.size + 2) D e L A2 c2 r A3 c3 h) : CQ w pb A c l N D e L A2 c2 r A3 c3 h (U.setCell ⟨w.heap.size + 1, 0, none⟩ (.slice D L.length e)) :=
  have q' : CQ w pb A c l N D e L A2 c2 r A3 c3 h (U.setCell ⟨w.heap.size + 1, 0, none⟩ (.slice D L.length e)) := ⟨(q.x.upto (B := w.heap.size + 2) (Nat.lt_succ_self _) hb).set0 _, o.far ((Fr.refl (w.heap.size + 1) (w.heap.size + 1 + 1) U).setCell (p := ⟨w.heap.size + 1, 0, none⟩) ⟨Nat.le_refl _, Nat.lt_succ_self _⟩ _) (Nat.le_refl _), (q.z.upto (B := w.heap.size + 2) (by omega) hb).off (p := ⟨w.heap.size + 1, 0, none⟩) (by simp) _, (q.cur.upto (B := w.heap.size + 2) (by omega) hb).set (p := ⟨w.heap.size + 1, 0, none⟩) (by simp; omega) _, (q.fr.moreN hb (by omega)).setNew (p := ⟨w.heap.size + 1, 0, none⟩) (by simp) _⟩
  q'
theorem CQ.app1 {D : Option Addr} {e : Nat} {L : List Msg} (q : CQ w pb A c l N A1 c1 s A2 c2 r A3 c3 h W) (hp : pb < w.heap.size) (hb : Below (w.heap.size + 2) W U) (o : OwnC U (w.heap.size + 2) A1 c1 s D e L A3 c3 h) : CQ w pb A c l N A1 c1 s D e L A3 c3 h (U.setCell ⟨w.heap.size + 1, 1, none⟩ (.slice D L.length e)) :=
  have q' : CQ w pb A c l N A1 c1 s D e L A3 c3 h (U.setCell ⟨w.heap.size + 1, 1, none⟩ (.slice D L.length e)) := ⟨(q.x.upto (B := w.heap.size + 2) (Nat.lt_succ_self _) hb).set1 _, o.far ((Fr.refl (w.heap.size + 1) (w.heap.size + 1 + 1) U).setCell (p := ⟨w.heap.size + 1, 1, none⟩) ⟨Nat.le_refl _, Nat.lt_succ_self _⟩ _) (Nat.le_refl _), (q.z.upto (B := w.heap.size + 2) (by omega) hb).off (p := ⟨w.heap.size + 1, 1, none⟩) (by simp) _, (q.cur.upto (B := w.heap.size + 2) (by omega) hb).set (p := ⟨w.heap.size + 1, 1, none⟩) (by simp; omega) _, (q.fr.moreN hb (by omega)).setNew (p := ⟨w.heap.size + 1, 1, none⟩) (by simp) _⟩
  q'
theorem CQ.app2 {D : Option Addr} {e : Nat} {L : List Msg} (q : CQ w pb A c l N A1 c1 s A2 c2 r A3 c3 h W) (hp : pb < w.heap.size) (hb : Below (w.heap.size + 2) W U) (o : OwnC U (w.heap.size + 2) A1 c1 s A2 c2 r D e L) : CQ w pb A c l N A1 c1 s A2 c2 r D e L (U.setCell ⟨w.heap.size + 1, 2, none⟩ (.slice D L.length e)) :=
  have q' : CQ w pb A c l N A1 c1 s A2 c2 r D e L (U.setCell ⟨w.heap.size + 1, 2, none⟩ (.slice D L.length e)) := ⟨(q.x.upto (B := w.heap.size + 2) (Nat.lt_succ_self _) hb).set2 _, o.far ((Fr.refl (w.heap.size + 1) (w.heap.size + 1 + 1) U).setCell (p := ⟨w.heap.size + 1, 2, none⟩) ⟨Nat.le_refl _, Nat.lt_succ_self _⟩ _) (Nat.le_refl _), (q.z.upto (B := w.heap.size + 2) (by omega) hb).off (p := ⟨w.heap.size + 1, 2, none⟩) (by simp) _, (q.cur.upto (B := w.heap.size + 2) (by omega) hb).set (p := ⟨w.heap.size + 1, 2, none⟩) (by simp; omega) _, (q.fr.moreN hb (by omega)).setNew (p := ⟨w.heap.size + 1, 2, none⟩) (by simp) _⟩
  q'
theorem CQ.fin (q : CQ w pb A c l N A1 c1 s A2 c2 r A3 c3 h W) (hp : pb < w.heap.size) : BN w.heap.size [.slice A1 s.length c1, .slice A2 r.length c2, .slice A3 h.length c3] (((W.setCell ⟨w.heap.size, 0, none⟩ (.slice A1 s.length c1)).setCell ⟨w.heap.size, 1, none⟩ (.slice A2 r.length c2)).setCell ⟨w.heap.size, 2, none⟩ (.slice A3 h.length c3)) ∧ OwnC (((W.setCell ⟨w.heap.size, 0, none⟩ (.slice A1 s.length c1)).setCell ⟨w.heap.size, 1, none⟩ (.slice A2 r.length c2)).setCell ⟨w.heap.size, 2, none⟩ (.slice A3 h.length c3)) w.heap.size A1 c1 s A2 c2 r A3 c3 h ∧ Cur pb A c l N (((W.setCell ⟨w.heap.size, 0, none⟩ (.slice A1 s.length c1)).setCell ⟨w.heap.size, 1, none⟩ (.slice A2 r.length c2)).setCell ⟨w.heap.size, 2, none⟩ (.slice A3 h.length c3)) ∧ Fr pb (pb + 1) w (((W.setCell ⟨w.heap.size, 0, none⟩ (.slice A1 s.length c1)).setCell ⟨w.heap.size, 1, none⟩ (.slice A2 r.length c2)).setCell ⟨w.heap.size, 2, none⟩ (.slice A3 h.length c3)) :=
  ⟨(((q.z.put (i := 0) rfl (.slice A1 s.length c1)).put (i := 1) rfl (.slice A2 r.length c2)).put (i := 2) rfl (.slice A3 h.length c3)), (q.o.far ((((Fr.refl w.heap.size (w.heap.size + 1) W).setCell (p := ⟨w.heap.size, 0, none⟩) ⟨Nat.le_refl _, Nat.lt_succ_self _⟩ _).setCell (p := ⟨w.heap.size, 1, none⟩) ⟨Nat.le_refl _, Nat.lt_succ_self _⟩ _).setCell (p := ⟨w.heap.size, 2, none⟩) ⟨Nat.le_refl _, Nat.lt_succ_self _⟩ _) (by omega)).lift (by omega), (((q.cur.set (p := ⟨w.heap.size, 0, none⟩) hp _).set (p := ⟨w.heap.size, 1, none⟩) hp _).set (p := ⟨w.heap.size, 2, none⟩) hp _), (((q.fr.setNew (p := ⟨w.heap.size, 0, none⟩) (Nat.le_refl _) _).setNew (p := ⟨w.heap.size, 1, none⟩) (Nat.le_refl _) _).setNew (p := ⟨w.heap.size, 2, none⟩) (Nat.le_refl _) _)⟩
end
set_option maxRecDepth 100000 in
set_option maxHeartbeats 40000000 in
theorem channel_any (pb : Nat) (A : Option Addr) (c : Nat) (l : List Int) (N : Nat) (w : World) (hC : Cur pb A c l N w) (hN : N ≤ 600000000000) :
    Calls Tryz.prog 61 #[.pointer (some ⟨pb, 0, none⟩)] w (fun e w' => ∃ (A1 : Option Addr) (c1 : Nat) (s : List Msg) (A2 : Option Addr) (c2 : Nat) (r : List Msg) (A3 : Option Addr) (c3 : Nat) (h : List Msg), e = .returned (.agg #[.slice A1 s.length c1, .slice A2 r.length c2, .slice A3 h.length c3]) ∧ (s.length ≤ 100 ∧ r.length ≤ 100 ∧ h.length ≤ 100) ∧ (sm s ∧ sm r ∧ sm h) ∧ OwnC w' w.heap.size A1 c1 s A2 c2 r A3 c3 h ∧ Cur pb A c l (N + 600) w' ∧ Fr pb (pb + 1) w w') := by
  obtain ⟨i0, hi0, hv0, hv1, hv2⟩ := info_parts Msg.info
  have hpb := hC.lt
  have q : CQ w pb A c l N none 0 [] none 0 [] none 0 [] ((w.alloc (.cells #[.slice none 0 0, .slice none 0 0, .slice none 0 0] 26)).alloc (.cells #[.slice none 0 0, .slice none 0 0, .slice none 0 0] 26)) := ⟨B3.new (w.alloc (.cells #[.slice none 0 0, .slice none 0 0, .slice none 0 0] 26)) _ _ _ 26 (w.heap.size + 1) (by simp), OwnC.nil, (BN.new w #[.slice none 0 0, .slice none 0 0, .slice none 0 0] 26 w.heap.size rfl).alloc (by simp) _, (hC.alloc _).alloc _, ((Fr.refl _ _ _).alloc _).alloc _⟩
  clear hC
  go_enter Tryz.func61, Tryz.ntmps61
  go_wp2_with fail
  refine (pick_any pb A c l N 7 _ q.cur (by omega) (by omega)).mono ?_
  rintro e w1 ⟨_, rfl, ⟨k1, rfl, hk1⟩, hC1, hFn⟩
  replace q := q.step hpb hFn hC1
  have hk1' : k1 ≤ 60 := by omega
  clear hFn hC1 hk1
  go_wp2_with fail
  refine (one_any pb A c l (N + 2) 12 _ q.cur (by omega) (by omega)).mono ?_
  rintro e w2 ⟨_, rfl, ⟨b, rfl⟩, hC1, hFn⟩
  replace q := q.step hpb hFn hC1
  clear hFn hC1
  go_upto_if 11 with fail
  go_cut [4] from 7 (fun n wx => ∃ k : Nat, n = .int .i64 k ∧ k ≤ 60 ∧ CQ w pb A c l (N + 4) none 0 [] none 0 [] none 0 [] wx)
  case first =>
    cases b with
    | false =>
      go_wp2_with fail
      go_meet
      exact ⟨k1, rfl, hk1', q⟩
    | true =>
      go_wp2_with fail
      go_meet
      exact ⟨60, rfl, Nat.le_refl _, q⟩
  case rest =>
    clear q hk1'
    obtain ⟨k0, rfl, hk0, q⟩ := hcut
    go_wp2_with fail
    go_loopw [4] (fun n wr => ∃ (k : Nat) (A1 : Option Addr) (c1 : Nat) (s : List Msg) (A2 : Option Addr) (c2 : Nat) (r : List Msg) (A3 : Option Addr) (c3 : Nat) (h : List Msg), n = .int .i64 k ∧ k ≤ 60 ∧ s.length + k ≤ 60 ∧ (r.length ≤ 0 ∧ h.length ≤ 0) ∧ (sm s ∧ sm r ∧ sm h) ∧ CQ w pb A c l (N + 4 + 8 * (60 - k)) A1 c1 s A2 c2 r A3 c3 h wr) (fun n _ => (intOf n).toNat)
    case atStart => exact ⟨k0, none, 0, [], none, 0, [], none, 0, [], rfl, hk0, by simpa using hk0, ⟨Nat.le_refl _, Nat.le_refl _⟩, ⟨sm.nil, sm.nil, sm.nil⟩, q.more (by omega)⟩
    case round =>
      clear q hk0
      obtain ⟨k, A1, c1, s, A2, c2, r, A3, c3, h, rfl, hk, hsl, ⟨hrl, hhl⟩, ⟨hs, hr, hh⟩, q⟩ := hrel
      by_cases hk0 : 0 < k
      · have hk0' : (0 : Int) < k := by omega
        obtain ⟨N0, hN0⟩ : ∃ N0, N0 = 4 + 8 * (60 - k) := ⟨_, rfl⟩
        have hN1 : N0 ≤ 484 := by omega
        replace q : CQ w pb A c l (N + N0) A1 c1 s A2 c2 r A3 c3 h wr := q.more (by omega)
        replace hN0 := Lib.hid hN0
        go_upto_region 7 with fail
        go_cut [5, 6] from 12 to 26 (fun p qv wx => ∃ (pn : Nat) (d : Bool), p = .pointer (some ⟨pn, 0, none⟩) ∧ qv = .bool d ∧ w.heap.size + 2 ≤ pn ∧ CQ w pb A c l (N + N0 + 8) A1 c1 s A2 c2 r A3 c3 h wx ∧ SndR w pn d s r h wx)
        case first =>
          as_aux_lemma =>
            refine wp_region_held_drew (S := fun w' => w'.cell? ⟨w.heap.size + 1, 0, none⟩ = some (.slice A1 s.length c1) ∧ w'.cell? ⟨w.heap.size + 1, 1, none⟩ = some (.slice A2 r.length c2) ∧ w'.cell? ⟨w.heap.size + 1, 2, none⟩ = some (.slice A3 h.length c3)) (by kernel_rfl) ⟨q.x.c0, q.x.c1, q.x.c2⟩ (fun hHeld => ?_)
            have q0 := q.drew
            clear q
            generalize wr.drew = W0 at q0 hHeld ⊢
            change wpAnyH _ _ _ _ _ 12 #[false, false, false, false, false, false, false, false, false, false, false, false] _ _
            refine wpAnyH_takeL (i := 0) (v := .agg #[.slice A1 s.length c1, .slice A2 r.length c2, .slice A3 h.length c3]) rfl (by kernel_rfl) (by kernel_rfl) (by kernel_rfl) (fun _ _ _ h => h) (Or.inl ⟨by rfl, fun w' hSw => by obtain ⟨z0, z1, z2⟩ := hSw; go_simp⟩) ⟨q0.x.c0, q0.x.c1, q0.x.c2⟩ ?_
            simp only [Act.put, List.setIfInBounds_toArray, List.set_cons_zero, List.set_cons_succ]
            refine wpAnyH_takeL (i := 1) (v := .pointer (some ⟨pb, 0, none⟩)) rfl (by kernel_rfl) (by kernel_rfl) (by kernel_rfl) (fun _ _ _ h => h) (Or.inl ⟨by rfl, fun w' hSw => by obtain ⟨z0, z1, z2⟩ := hSw; go_simp⟩) ⟨q0.x.c0, q0.x.c1, q0.x.c2⟩ ?_
            simp only [Act.put, List.setIfInBounds_toArray, List.set_cons_zero, List.set_cons_succ]
            refine wpAnyH_takeL (i := 3) (v := .pointer (some ⟨pb, 0, none⟩)) rfl (by kernel_rfl) (by kernel_rfl) (by kernel_rfl) (fun _ _ _ h => h) (Or.inl ⟨by rfl, fun w' hSw => by obtain ⟨z0, z1, z2⟩ := hSw; go_simp⟩) ⟨q0.x.c0, q0.x.c1, q0.x.c2⟩ ?_
            simp only [Act.put, List.setIfInBounds_toArray, List.set_cons_zero, List.set_cons_succ]
            refine wpAnyH_ready (rs := [2, 9]) (by kernel_rfl) (by simp) ?_
            refine AllReadyH.consL rfl (fun K hK => ?_) (AllReadyH.consL rfl (fun K hK => ?_) AllReadyH.nil)
            · go_simp
              refine (crewName_any pb A c l (N + N0) _ q0.cur (by omega)).mono ?_
              rintro e V1 ⟨f, hf, rfl, hC, hFn⟩
              have q1 := q0.step hpb hFn hC
              clear hC hFn q0
              go_simp
              refine hK.out _ _ ⟨q1.x.c0, q1.x.c1, q1.x.c2⟩ (fun hHeld => ?_)
              clear hK K
              simp only [List.setIfInBounds_toArray, List.set_cons_zero, List.set_cons_succ]
              refine wpAnyH_ready (rs := [4, 9]) (by kernel_rfl) (by simp) ?_
              refine AllReadyH.consL rfl (fun K hK => ?_) (AllReadyH.consL rfl (fun K hK => ?_) AllReadyH.nil)
              · go_simp
                refine (bodyOf_any pb A c l (N + N0 + 4) _ q1.cur (by omega)).mono ?_
                rintro e V2 ⟨b, hb_, rfl, hC, hFn⟩
                have q2 := q1.step hpb hFn hC
                clear hC hFn q1
                go_simp
                refine hK.out _ _ ⟨q2.x.c0, q2.x.c1, q2.x.c2⟩ (fun hHeld => ?_)
                clear hK K
                simp only [List.setIfInBounds_toArray, List.set_cons_zero, List.set_cons_succ]
                refine wpAnyH_ready (rs := [5, 9]) (by kernel_rfl) (by simp) ?_
                refine AllReadyH.consL rfl (fun K hK => ?_) (AllReadyH.consL rfl (fun K hK => ?_) AllReadyH.nil)
                · go_simp
                  obtain ⟨y1, y2, y3⟩ := q2.rows
                  refine (SendMessage_specO A1 c1 s A2 c2 r A3 c3 h f b _ (by omega) hs.big y1 q2.o.o1.cap (by omega) hr.big y2 q2.o.o2.cap (by omega) hh.big y3 q2.o.o3.cap (by omega) (by omega)).mono ?_
                  have hD := Lib.hid (snd_ok (s := s) (r := r) (h := h) (f := f) (b := b))
                  generalize sndT s r h f b = D at hD ⊢
                  obtain ⟨⟨t1, t2, t3⟩, d⟩ := D
                  rintro e V3 ⟨D1, e1, D2, e2, D3, e3, rfl, hI, hb⟩
                  have q3 := q2.below hb
                  have hI0 := q2.size
                  clear hb y1 y2 y3 q2
                  dsimp only
                  go_simp
                  refine hK.out _ _ ⟨q3.x.c0, q3.x.c1, q3.x.c2⟩ (fun hHeld => ?_)
                  clear hK K
                  simp only [List.setIfInBounds_toArray, List.set_cons_zero, List.set_cons_succ]
                  refine wpAnyH_takeL (i := 6) (v := .tuple #[.agg #[.slice D1 t1.length e1, .slice D2 t2.length e2, .slice D3 t3.length e3], .bool d]) rfl (by kernel_rfl) (by kernel_rfl) (by kernel_rfl) (fun _ _ _ h => h) (Or.inl ⟨by rfl, fun w' hSw => by obtain ⟨z0, z1, z2⟩ := hSw; go_simp⟩) ⟨q3.x.c0, q3.x.c1, q3.x.c2⟩ ?_
                  simp only [Act.put, List.setIfInBounds_toArray, List.set_cons_zero, List.set_cons_succ]
                  refine wpAnyH_takeL (i := 7) (v := .agg #[.slice D1 t1.length e1, .slice D2 t2.length e2, .slice D3 t3.length e3]) rfl (by kernel_rfl) (by kernel_rfl) (by kernel_rfl) (fun _ _ _ h => h) (Or.inl ⟨by rfl, fun w' hSw => by obtain ⟨z0, z1, z2⟩ := hSw; go_simp⟩) ⟨q3.x.c0, q3.x.c1, q3.x.c2⟩ ?_
                  simp only [Act.put, List.setIfInBounds_toArray, List.set_cons_zero, List.set_cons_succ]
                  refine wpAnyH_takeL (i := 8) (v := .bool d) rfl (by kernel_rfl) (by kernel_rfl) (by kernel_rfl) (fun _ _ _ h => h) (Or.inl ⟨by rfl, fun w' hSw => by obtain ⟨z0, z1, z2⟩ := hSw; go_simp⟩) ⟨q3.x.c0, q3.x.c1, q3.x.c2⟩ ?_
                  simp only [Act.put, List.setIfInBounds_toArray, List.set_cons_zero, List.set_cons_succ]
                  refine wpAnyH_ready (rs := [9]) (by kernel_rfl) (by simp) ?_
                  refine AllReadyH.consL rfl (fun K hK => ?_) AllReadyH.nil
                  go_simp
                  obtain ⟨pn, hpn⟩ : ∃ pn, pn = V3.heap.size := ⟨_, rfl⟩
                  have hN4 := BN.new V3 #[.slice none 0 0, .slice none 0 0, .slice none 0 0] 26 pn hpn
                  have hsz := q3.size
                  obtain ⟨d1_, d2_, d3_⟩ := q3.far (g := pn) (by omega)
                  have q4 := q3.alloc (.cells #[.slice none 0 0, .slice none 0 0, .slice none 0 0] 26)
                  rw [← hpn]
                  have hpw : w.heap.size + 2 ≤ pn := by omega
                  have hI2 := hI.below ((Below.refl _ _).alloc (Nat.le_refl _) (.cells #[.slice none 0 0, .slice none 0 0, .slice none 0 0] 26))
                  have hIp : Dis D1 (some ⟨pn, 0, none⟩) ∧ Dis D2 (some ⟨pn, 0, none⟩) ∧ Dis D3 (some ⟨pn, 0, none⟩) := own_far hI (by omega)
                  clear hI
                  clear hpn hsz q3
                  generalize V3.alloc (.cells #[.slice none 0 0, .slice none 0 0, .slice none 0 0] 26) = V4 at hN4 q4 hI2 ⊢
                  refine hK.out _ _ ⟨q4.x.c0, q4.x.c1, q4.x.c2⟩ (fun hHeld => ?_)
                  clear hK K
                  simp only [List.setIfInBounds_toArray, List.set_cons_zero, List.set_cons_succ]
                  have n0 := (hN4 0 _ rfl).1
                  have n1 := (hN4 1 _ rfl).1
                  have n2 := (hN4 2 _ rfl).1
                  have m0 := (hN4 0 _ rfl).2
                  have m1 := (hN4 1 _ rfl).2
                  have m2 := (hN4 2 _ rfl).2
                  refine wpAnyH_ready (rs := [10]) (by kernel_rfl) (by simp) ?_
                  refine AllReadyH.consL rfl (fun K hK => ?_) AllReadyH.nil
                  go_simp
                  have hF5 : Fr pn (pn + 1) V4 (((V4.setCell ⟨pn, 0, none⟩ (.slice D1 t1.length e1)).setCell ⟨pn, 1, none⟩ (.slice D2 t2.length e2)).setCell ⟨pn, 2, none⟩ (.slice D3 t3.length e3)) := (((Fr.refl _ _ _).setCell (p := ⟨pn, 0, none⟩) ⟨Nat.le_refl _, Nat.lt_succ_self _⟩ _).setCell (p := ⟨pn, 1, none⟩) ⟨Nat.le_refl _, Nat.lt_succ_self _⟩ _).setCell (p := ⟨pn, 2, none⟩) ⟨Nat.le_refl _, Nat.lt_succ_self _⟩ _
                  have hY := (((hN4.put (i := 0) rfl (.slice D1 t1.length e1)).put (i := 1) rfl (.slice D2 t2.length e2)).put (i := 2) rfl (.slice D3 t3.length e3))
                  have q9 := q4.other hpb hpw hF5 d1_ d2_ d3_
                  have hI9 := (hI2.apart hF5 hIp.1 hIp.2.1 hIp.2.2).lift (b0 := w.heap.size + 2) (by omega)
                  refine hK.out _ _ ⟨q9.x.c0, q9.x.c1, q9.x.c2⟩ (fun hHeld => ?_)
                  clear hK K
                  simp only [List.setIfInBounds_toArray, List.set_cons_zero, List.set_cons_succ]
                  clear hN4 q4 n0 n1 n2 m0 m1 m2 hF5
                  generalize (((V4.setCell ⟨pn, 0, none⟩ (.slice D1 t1.length e1)).setCell ⟨pn, 1, none⟩ (.slice D2 t2.length e2)).setCell ⟨pn, 2, none⟩ (.slice D3 t3.length e3)) = U at hY q9 hI9 hHeld ⊢
                  refine wpAnyH_takeL (i := 11) (v := .bool d) rfl (by kernel_rfl) (by kernel_rfl) (by kernel_rfl) (fun _ _ _ h => h) (Or.inl ⟨by rfl, fun w' hSw => by obtain ⟨z0, z1, z2⟩ := hSw; go_simp⟩) ⟨q9.x.c0, q9.x.c1, q9.x.c2⟩ ?_
                  simp only [Act.put, List.setIfInBounds_toArray, List.set_cons_zero, List.set_cons_succ]
                  refine wpAnyH_done (by kernel_rfl) ?_ _
                  go_wp2_with fail
                  go_meet
                  exact ⟨pn, d, rfl, rfl, by omega, q9.more (by omega), fun hd => by
                    have hq := hD.out hd
                    cases hq
                    exact ⟨⟨f, _, b⟩, D1, e1, D2, e2, D3, e3, ⟨hf, hb_⟩, hI9, hY⟩⟩
                · go_simp
                  obtain ⟨pn, hpn⟩ : ∃ pn, pn = V2.heap.size := ⟨_, rfl⟩
                  have hN5 := BN.new V2 #[.slice none 0 0, .slice none 0 0, .slice none 0 0] 26 pn hpn
                  have hsz := q2.size
                  obtain ⟨d1_, d2_, d3_⟩ := q2.far (g := pn) (by omega)
                  have q5 := q2.alloc (.cells #[.slice none 0 0, .slice none 0 0, .slice none 0 0] 26)
                  rw [← hpn]
                  have hpw : w.heap.size + 2 ≤ pn := by omega
                  clear hpn hsz q2
                  generalize V2.alloc (.cells #[.slice none 0 0, .slice none 0 0, .slice none 0 0] 26) = V5 at hN5 q5 ⊢
                  refine hK.out _ _ ⟨q5.x.c0, q5.x.c1, q5.x.c2⟩ (fun hHeld => ?_)
                  clear hK K
                  simp only [List.setIfInBounds_toArray, List.set_cons_zero, List.set_cons_succ]
                  refine wpAnyH_ready (rs := [5]) (by kernel_rfl) (by simp) ?_
                  refine AllReadyH.consL rfl (fun K hK => ?_) AllReadyH.nil
                  go_simp
                  obtain ⟨y1, y2, y3⟩ := q5.rows
                  refine (SendMessage_specO A1 c1 s A2 c2 r A3 c3 h f b _ (by omega) hs.big y1 q5.o.o1.cap (by omega) hr.big y2 q5.o.o2.cap (by omega) hh.big y3 q5.o.o3.cap (by omega) (by omega)).mono ?_
                  have hD := Lib.hid (snd_ok (s := s) (r := r) (h := h) (f := f) (b := b))
                  generalize sndT s r h f b = D at hD ⊢
                  obtain ⟨⟨t1, t2, t3⟩, d⟩ := D
                  rintro e V6 ⟨D1, e1, D2, e2, D3, e3, rfl, hI, hb⟩
                  have q6 := q5.below hb
                  have hN6 := hN5.below (by simp) hb
                  have hpi := hN5.lt (by simp)
                  clear hb y1 y2 y3 q5 hN5
                  dsimp only
                  go_simp
                  refine hK.out _ _ ⟨q6.x.c0, q6.x.c1, q6.x.c2⟩ (fun hHeld => ?_)
                  clear hK K
                  simp only [List.setIfInBounds_toArray, List.set_cons_zero, List.set_cons_succ]
                  refine wpAnyH_takeL (i := 6) (v := .tuple #[.agg #[.slice D1 t1.length e1, .slice D2 t2.length e2, .slice D3 t3.length e3], .bool d]) rfl (by kernel_rfl) (by kernel_rfl) (by kernel_rfl) (fun _ _ _ h => h) (Or.inl ⟨by rfl, fun w' hSw => by obtain ⟨z0, z1, z2⟩ := hSw; go_simp⟩) ⟨q6.x.c0, q6.x.c1, q6.x.c2⟩ ?_
                  simp only [Act.put, List.setIfInBounds_toArray, List.set_cons_zero, List.set_cons_succ]
                  refine wpAnyH_takeL (i := 7) (v := .agg #[.slice D1 t1.length e1, .slice D2 t2.length e2, .slice D3 t3.length e3]) rfl (by kernel_rfl) (by kernel_rfl) (by kernel_rfl) (fun _ _ _ h => h) (Or.inl ⟨by rfl, fun w' hSw => by obtain ⟨z0, z1, z2⟩ := hSw; go_simp⟩) ⟨q6.x.c0, q6.x.c1, q6.x.c2⟩ ?_
                  simp only [Act.put, List.setIfInBounds_toArray, List.set_cons_zero, List.set_cons_succ]
                  refine wpAnyH_takeL (i := 8) (v := .bool d) rfl (by kernel_rfl) (by kernel_rfl) (by kernel_rfl) (fun _ _ _ h => h) (Or.inl ⟨by rfl, fun w' hSw => by obtain ⟨z0, z1, z2⟩ := hSw; go_simp⟩) ⟨q6.x.c0, q6.x.c1, q6.x.c2⟩ ?_
                  simp only [Act.put, List.setIfInBounds_toArray, List.set_cons_zero, List.set_cons_succ]
                  have n0 := (hN6 0 _ rfl).1
                  have n1 := (hN6 1 _ rfl).1
                  have n2 := (hN6 2 _ rfl).1
                  have m0 := (hN6 0 _ rfl).2
                  have m1 := (hN6 1 _ rfl).2
                  have m2 := (hN6 2 _ rfl).2
                  refine wpAnyH_ready (rs := [10]) (by kernel_rfl) (by simp) ?_
                  refine AllReadyH.consL rfl (fun K hK => ?_) AllReadyH.nil
                  go_simp
                  have hF5 : Fr pn (pn + 1) V6 (((V6.setCell ⟨pn, 0, none⟩ (.slice D1 t1.length e1)).setCell ⟨pn, 1, none⟩ (.slice D2 t2.length e2)).setCell ⟨pn, 2, none⟩ (.slice D3 t3.length e3)) := (((Fr.refl _ _ _).setCell (p := ⟨pn, 0, none⟩) ⟨Nat.le_refl _, Nat.lt_succ_self _⟩ _).setCell (p := ⟨pn, 1, none⟩) ⟨Nat.le_refl _, Nat.lt_succ_self _⟩ _).setCell (p := ⟨pn, 2, none⟩) ⟨Nat.le_refl _, Nat.lt_succ_self _⟩ _
                  have hY := (((hN6.put (i := 0) rfl (.slice D1 t1.length e1)).put (i := 1) rfl (.slice D2 t2.length e2)).put (i := 2) rfl (.slice D3 t3.length e3))
                  have q9 := q6.other hpb hpw hF5 d1_ d2_ d3_
                  have hI9 := (hI.far hF5 (by omega)).lift (b0 := w.heap.size + 2) (by omega)
                  refine hK.out _ _ ⟨q9.x.c0, q9.x.c1, q9.x.c2⟩ (fun hHeld => ?_)
                  clear hK K
                  simp only [List.setIfInBounds_toArray, List.set_cons_zero, List.set_cons_succ]
                  clear hN6 q6 n0 n1 n2 m0 m1 m2 hF5
                  generalize (((V6.setCell ⟨pn, 0, none⟩ (.slice D1 t1.length e1)).setCell ⟨pn, 1, none⟩ (.slice D2 t2.length e2)).setCell ⟨pn, 2, none⟩ (.slice D3 t3.length e3)) = U at hY q9 hI9 hHeld ⊢
                  refine wpAnyH_takeL (i := 11) (v := .bool d) rfl (by kernel_rfl) (by kernel_rfl) (by kernel_rfl) (fun _ _ _ h => h) (Or.inl ⟨by rfl, fun w' hSw => by obtain ⟨z0, z1, z2⟩ := hSw; go_simp⟩) ⟨q9.x.c0, q9.x.c1, q9.x.c2⟩ ?_
                  simp only [Act.put, List.setIfInBounds_toArray, List.set_cons_zero, List.set_cons_succ]
                  refine wpAnyH_done (by kernel_rfl) ?_ _
                  go_wp2_with fail
                  go_meet
                  exact ⟨pn, d, rfl, rfl, by omega, q9.more (by omega), fun hd => by
                    have hq := hD.out hd
                    cases hq
                    exact ⟨⟨f, _, b⟩, D1, e1, D2, e2, D3, e3, ⟨hf, hb_⟩, hI9, hY⟩⟩
              · go_simp
                obtain ⟨pn, hpn⟩ : ∃ pn, pn = V1.heap.size := ⟨_, rfl⟩
                have hN7 := BN.new V1 #[.slice none 0 0, .slice none 0 0, .slice none 0 0] 26 pn hpn
                have hsz := q1.size
                obtain ⟨d1_, d2_, d3_⟩ := q1.far (g := pn) (by omega)
                have q7 := q1.alloc (.cells #[.slice none 0 0, .slice none 0 0, .slice none 0 0] 26)
                rw [← hpn]
                have hpw : w.heap.size + 2 ≤ pn := by omega
                clear hpn hsz q1
                generalize V1.alloc (.cells #[.slice none 0 0, .slice none 0 0, .slice none 0 0] 26) = V7 at hN7 q7 ⊢
                refine hK.out _ _ ⟨q7.x.c0, q7.x.c1, q7.x.c2⟩ (fun hHeld => ?_)
                clear hK K
                simp only [List.setIfInBounds_toArray, List.set_cons_zero, List.set_cons_succ]
                refine wpAnyH_ready (rs := [4]) (by kernel_rfl) (by simp) ?_
                refine AllReadyH.consL rfl (fun K hK => ?_) AllReadyH.nil
                go_simp
                refine (bodyOf_any pb A c l (N + N0 + 4) _ q7.cur (by omega)).mono ?_
                rintro e V8 ⟨b, hb_, rfl, hC, hFn⟩
                have q8 := q7.step hpb hFn hC
                have hN8 := hN7.fr hFn (by simp) (by omega)
                clear hC hFn q7 hN7
                go_simp
                refine hK.out _ _ ⟨q8.x.c0, q8.x.c1, q8.x.c2⟩ (fun hHeld => ?_)
                clear hK K
                simp only [List.setIfInBounds_toArray, List.set_cons_zero, List.set_cons_succ]
                refine wpAnyH_ready (rs := [5]) (by kernel_rfl) (by simp) ?_
                refine AllReadyH.consL rfl (fun K hK => ?_) AllReadyH.nil
                go_simp
                obtain ⟨y1, y2, y3⟩ := q8.rows
                refine (SendMessage_specO A1 c1 s A2 c2 r A3 c3 h f b _ (by omega) hs.big y1 q8.o.o1.cap (by omega) hr.big y2 q8.o.o2.cap (by omega) hh.big y3 q8.o.o3.cap (by omega) (by omega)).mono ?_
                have hD := Lib.hid (snd_ok (s := s) (r := r) (h := h) (f := f) (b := b))
                generalize sndT s r h f b = D at hD ⊢
                obtain ⟨⟨t1, t2, t3⟩, d⟩ := D
                rintro e V9 ⟨D1, e1, D2, e2, D3, e3, rfl, hI, hb⟩
                have q9 := q8.below hb
                have hN9 := hN8.below (by simp) hb
                have hpi := hN8.lt (by simp)
                clear hb y1 y2 y3 q8 hN8
                dsimp only
                go_simp
                refine hK.out _ _ ⟨q9.x.c0, q9.x.c1, q9.x.c2⟩ (fun hHeld => ?_)
                clear hK K
                simp only [List.setIfInBounds_toArray, List.set_cons_zero, List.set_cons_succ]
                refine wpAnyH_takeL (i := 6) (v := .tuple #[.agg #[.slice D1 t1.length e1, .slice D2 t2.length e2, .slice D3 t3.length e3], .bool d]) rfl (by kernel_rfl) (by kernel_rfl) (by kernel_rfl) (fun _ _ _ h => h) (Or.inl ⟨by rfl, fun w' hSw => by obtain ⟨z0, z1, z2⟩ := hSw; go_simp⟩) ⟨q9.x.c0, q9.x.c1, q9.x.c2⟩ ?_
                simp only [Act.put, List.setIfInBounds_toArray, List.set_cons_zero, List.set_cons_succ]
                refine wpAnyH_takeL (i := 7) (v := .agg #[.slice D1 t1.length e1, .slice D2 t2.length e2, .slice D3 t3.length e3]) rfl (by kernel_rfl) (by kernel_rfl) (by kernel_rfl) (fun _ _ _ h => h) (Or.inl ⟨by rfl, fun w' hSw => by obtain ⟨z0, z1, z2⟩ := hSw; go_simp⟩) ⟨q9.x.c0, q9.x.c1, q9.x.c2⟩ ?_
                simp only [Act.put, List.setIfInBounds_toArray, List.set_cons_zero, List.set_cons_succ]
                refine wpAnyH_takeL (i := 8) (v := .bool d) rfl (by kernel_rfl) (by kernel_rfl) (by kernel_rfl) (fun _ _ _ h => h) (Or.inl ⟨by rfl, fun w' hSw => by obtain ⟨z0, z1, z2⟩ := hSw; go_simp⟩) ⟨q9.x.c0, q9.x.c1, q9.x.c2⟩ ?_
                simp only [Act.put, List.setIfInBounds_toArray, List.set_cons_zero, List.set_cons_succ]
                have n0 := (hN9 0 _ rfl).1
                have n1 := (hN9 1 _ rfl).1
                have n2 := (hN9 2 _ rfl).1
                have m0 := (hN9 0 _ rfl).2
                have m1 := (hN9 1 _ rfl).2
                have m2 := (hN9 2 _ rfl).2
                refine wpAnyH_ready (rs := [10]) (by kernel_rfl) (by simp) ?_
                refine AllReadyH.consL rfl (fun K hK => ?_) AllReadyH.nil
                go_simp
                have hF5 : Fr pn (pn + 1) V9 (((V9.setCell ⟨pn, 0, none⟩ (.slice D1 t1.length e1)).setCell ⟨pn, 1, none⟩ (.slice D2 t2.length e2)).setCell ⟨pn, 2, none⟩ (.slice D3 t3.length e3)) := (((Fr.refl _ _ _).setCell (p := ⟨pn, 0, none⟩) ⟨Nat.le_refl _, Nat.lt_succ_self _⟩ _).setCell (p := ⟨pn, 1, none⟩) ⟨Nat.le_refl _, Nat.lt_succ_self _⟩ _).setCell (p := ⟨pn, 2, none⟩) ⟨Nat.le_refl _, Nat.lt_succ_self _⟩ _
                have hY := (((hN9.put (i := 0) rfl (.slice D1 t1.length e1)).put (i := 1) rfl (.slice D2 t2.length e2)).put (i := 2) rfl (.slice D3 t3.length e3))
                replace q9 := q9.other hpb hpw hF5 d1_ d2_ d3_
                have hI9 := (hI.far hF5 (by omega)).lift (b0 := w.heap.size + 2) (by omega)
                refine hK.out _ _ ⟨q9.x.c0, q9.x.c1, q9.x.c2⟩ (fun hHeld => ?_)
                clear hK K
                simp only [List.setIfInBounds_toArray, List.set_cons_zero, List.set_cons_succ]
                clear hN9  n0 n1 n2 m0 m1 m2 hF5
                generalize (((V9.setCell ⟨pn, 0, none⟩ (.slice D1 t1.length e1)).setCell ⟨pn, 1, none⟩ (.slice D2 t2.length e2)).setCell ⟨pn, 2, none⟩ (.slice D3 t3.length e3)) = U at hY q9 hI9 hHeld ⊢
                refine wpAnyH_takeL (i := 11) (v := .bool d) rfl (by kernel_rfl) (by kernel_rfl) (by kernel_rfl) (fun _ _ _ h => h) (Or.inl ⟨by rfl, fun w' hSw => by obtain ⟨z0, z1, z2⟩ := hSw; go_simp⟩) ⟨q9.x.c0, q9.x.c1, q9.x.c2⟩ ?_
                simp only [Act.put, List.setIfInBounds_toArray, List.set_cons_zero, List.set_cons_succ]
                refine wpAnyH_done (by kernel_rfl) ?_ _
                go_wp2_with fail
                go_meet
                exact ⟨pn, d, rfl, rfl, by omega, q9.more (by omega), fun hd => by
                  have hq := hD.out hd
                  cases hq
                  exact ⟨⟨f, _, b⟩, D1, e1, D2, e2, D3, e3, ⟨hf, hb_⟩, hI9, hY⟩⟩
            · go_simp
              obtain ⟨pn, hpn⟩ : ∃ pn, pn = W0.heap.size := ⟨_, rfl⟩
              have hN10 := BN.new W0 #[.slice none 0 0, .slice none 0 0, .slice none 0 0] 26 pn hpn
              have hsz := q0.size
              obtain ⟨d1_, d2_, d3_⟩ := q0.far (g := pn) (by omega)
              have q10 := q0.alloc (.cells #[.slice none 0 0, .slice none 0 0, .slice none 0 0] 26)
              rw [← hpn]
              have hpw : w.heap.size + 2 ≤ pn := by omega
              clear hpn hsz q0
              generalize W0.alloc (.cells #[.slice none 0 0, .slice none 0 0, .slice none 0 0] 26) = V10 at hN10 q10 ⊢
              refine hK.out _ _ ⟨q10.x.c0, q10.x.c1, q10.x.c2⟩ (fun hHeld => ?_)
              clear hK K
              simp only [List.setIfInBounds_toArray, List.set_cons_zero, List.set_cons_succ]
              refine wpAnyH_ready (rs := [2]) (by kernel_rfl) (by simp) ?_
              refine AllReadyH.consL rfl (fun K hK => ?_) AllReadyH.nil
              go_simp
              refine (crewName_any pb A c l (N + N0) _ q10.cur (by omega)).mono ?_
              rintro e V11 ⟨f, hf, rfl, hC, hFn⟩
              have q11 := q10.step hpb hFn hC
              have hN11 := hN10.fr hFn (by simp) (by omega)
              clear hC hFn q10 hN10
              go_simp
              refine hK.out _ _ ⟨q11.x.c0, q11.x.c1, q11.x.c2⟩ (fun hHeld => ?_)
              clear hK K
              simp only [List.setIfInBounds_toArray, List.set_cons_zero, List.set_cons_succ]
              refine wpAnyH_ready (rs := [4]) (by kernel_rfl) (by simp) ?_
              refine AllReadyH.consL rfl (fun K hK => ?_) AllReadyH.nil
              go_simp
              refine (bodyOf_any pb A c l (N + N0 + 4) _ q11.cur (by omega)).mono ?_
              rintro e V12 ⟨b, hb_, rfl, hC, hFn⟩
              have q12 := q11.step hpb hFn hC
              have hN12 := hN11.fr hFn (by simp) (by omega)
              clear hC hFn q11 hN11
              go_simp
              refine hK.out _ _ ⟨q12.x.c0, q12.x.c1, q12.x.c2⟩ (fun hHeld => ?_)
              clear hK K
              simp only [List.setIfInBounds_toArray, List.set_cons_zero, List.set_cons_succ]
              refine wpAnyH_ready (rs := [5]) (by kernel_rfl) (by simp) ?_
              refine AllReadyH.consL rfl (fun K hK => ?_) AllReadyH.nil
              go_simp
              obtain ⟨y1, y2, y3⟩ := q12.rows
              refine (SendMessage_specO A1 c1 s A2 c2 r A3 c3 h f b _ (by omega) hs.big y1 q12.o.o1.cap (by omega) hr.big y2 q12.o.o2.cap (by omega) hh.big y3 q12.o.o3.cap (by omega) (by omega)).mono ?_
              have hD := Lib.hid (snd_ok (s := s) (r := r) (h := h) (f := f) (b := b))
              generalize sndT s r h f b = D at hD ⊢
              obtain ⟨⟨t1, t2, t3⟩, d⟩ := D
              rintro e V13 ⟨D1, e1, D2, e2, D3, e3, rfl, hI, hb⟩
              have q13 := q12.below hb
              have hN13 := hN12.below (by simp) hb
              have hpi := hN12.lt (by simp)
              clear hb y1 y2 y3 q12 hN12
              dsimp only
              go_simp
              refine hK.out _ _ ⟨q13.x.c0, q13.x.c1, q13.x.c2⟩ (fun hHeld => ?_)
              clear hK K
              simp only [List.setIfInBounds_toArray, List.set_cons_zero, List.set_cons_succ]
              refine wpAnyH_takeL (i := 6) (v := .tuple #[.agg #[.slice D1 t1.length e1, .slice D2 t2.length e2, .slice D3 t3.length e3], .bool d]) rfl (by kernel_rfl) (by kernel_rfl) (by kernel_rfl) (fun _ _ _ h => h) (Or.inl ⟨by rfl, fun w' hSw => by obtain ⟨z0, z1, z2⟩ := hSw; go_simp⟩) ⟨q13.x.c0, q13.x.c1, q13.x.c2⟩ ?_
              simp only [Act.put, List.setIfInBounds_toArray, List.set_cons_zero, List.set_cons_succ]
              refine wpAnyH_takeL (i := 7) (v := .agg #[.slice D1 t1.length e1, .slice D2 t2.length e2, .slice D3 t3.length e3]) rfl (by kernel_rfl) (by kernel_rfl) (by kernel_rfl) (fun _ _ _ h => h) (Or.inl ⟨by rfl, fun w' hSw => by obtain ⟨z0, z1, z2⟩ := hSw; go_simp⟩) ⟨q13.x.c0, q13.x.c1, q13.x.c2⟩ ?_
              simp only [Act.put, List.setIfInBounds_toArray, List.set_cons_zero, List.set_cons_succ]
              refine wpAnyH_takeL (i := 8) (v := .bool d) rfl (by kernel_rfl) (by kernel_rfl) (by kernel_rfl) (fun _ _ _ h => h) (Or.inl ⟨by rfl, fun w' hSw => by obtain ⟨z0, z1, z2⟩ := hSw; go_simp⟩) ⟨q13.x.c0, q13.x.c1, q13.x.c2⟩ ?_
              simp only [Act.put, List.setIfInBounds_toArray, List.set_cons_zero, List.set_cons_succ]
              have n0 := (hN13 0 _ rfl).1
              have n1 := (hN13 1 _ rfl).1
              have n2 := (hN13 2 _ rfl).1
              have m0 := (hN13 0 _ rfl).2
              have m1 := (hN13 1 _ rfl).2
              have m2 := (hN13 2 _ rfl).2
              refine wpAnyH_ready (rs := [10]) (by kernel_rfl) (by simp) ?_
              refine AllReadyH.consL rfl (fun K hK => ?_) AllReadyH.nil
              go_simp
              have hF5 : Fr pn (pn + 1) V13 (((V13.setCell ⟨pn, 0, none⟩ (.slice D1 t1.length e1)).setCell ⟨pn, 1, none⟩ (.slice D2 t2.length e2)).setCell ⟨pn, 2, none⟩ (.slice D3 t3.length e3)) := (((Fr.refl _ _ _).setCell (p := ⟨pn, 0, none⟩) ⟨Nat.le_refl _, Nat.lt_succ_self _⟩ _).setCell (p := ⟨pn, 1, none⟩) ⟨Nat.le_refl _, Nat.lt_succ_self _⟩ _).setCell (p := ⟨pn, 2, none⟩) ⟨Nat.le_refl _, Nat.lt_succ_self _⟩ _
              have hY := (((hN13.put (i := 0) rfl (.slice D1 t1.length e1)).put (i := 1) rfl (.slice D2 t2.length e2)).put (i := 2) rfl (.slice D3 t3.length e3))
              have q9 := q13.other hpb hpw hF5 d1_ d2_ d3_
              have hI9 := (hI.far hF5 (by omega)).lift (b0 := w.heap.size + 2) (by omega)
              refine hK.out _ _ ⟨q9.x.c0, q9.x.c1, q9.x.c2⟩ (fun hHeld => ?_)
              clear hK K
              simp only [List.setIfInBounds_toArray, List.set_cons_zero, List.set_cons_succ]
              clear hN13 q13 n0 n1 n2 m0 m1 m2 hF5
              generalize (((V13.setCell ⟨pn, 0, none⟩ (.slice D1 t1.length e1)).setCell ⟨pn, 1, none⟩ (.slice D2 t2.length e2)).setCell ⟨pn, 2, none⟩ (.slice D3 t3.length e3)) = U at hY q9 hI9 hHeld ⊢
              refine wpAnyH_takeL (i := 11) (v := .bool d) rfl (by kernel_rfl) (by kernel_rfl) (by kernel_rfl) (fun _ _ _ h => h) (Or.inl ⟨by rfl, fun w' hSw => by obtain ⟨z0, z1, z2⟩ := hSw; go_simp⟩) ⟨q9.x.c0, q9.x.c1, q9.x.c2⟩ ?_
              simp only [Act.put, List.setIfInBounds_toArray, List.set_cons_zero, List.set_cons_succ]
              refine wpAnyH_done (by kernel_rfl) ?_ _
              go_wp2_with fail
              go_meet
              exact ⟨pn, d, rfl, rfl, by omega, q9.more (by omega), fun hd => by
                have hq := hD.out hd
                cases hq
                exact ⟨⟨f, _, b⟩, D1, e1, D2, e2, D3, e3, ⟨hf, hb_⟩, hI9, hY⟩⟩
        case rest =>
          obtain ⟨pn, d, rfl, rfl, hpn, q1, hR⟩ := hcut
          clear q
          cases d with
          | false =>
            clear hR
            go_wp2
            go_roundw
            case rel => exact ⟨k - 1, A1, c1, s, A2, c2, r, A3, c3, h, by first | go_num | (congr 1; omega), by omega, by omega, ⟨hrl, hhl⟩, ⟨hs, hr, hh⟩, q1.more (by have := hN0.out; omega)⟩
            case measure => simp [intOf]; omega
          | true =>
            obtain ⟨m, D1, e1, D2, e2, D3, e3, hm, hI, hY⟩ := hR rfl
            have y0 := (hY 0 _ rfl).1
            have y1 := (hY 1 _ rfl).1
            have y2 := (hY 2 _ rfl).1
            obtain ⟨L, hL⟩ : ∃ L, Hid (L = s ++ [m]) := ⟨_, Lib.hid rfl⟩
            have hLl : L.length = s.length + 1 := by rw [hL.out]; simp
            have hLl2 : L.length + (k - 1) ≤ 60 := by omega
            have hLs : sm L := by rw [hL.out]; exact hs.app (sm.one hm)
            rw [← hL.out] at hI y0
            clear hY hR hLl hL
            obtain ⟨b0, b1, b2, f0, f1, f2⟩ := id q1.x
            have q9 := q1.put hpb hI
            clear q1 hI
            go_wp2
            go_roundw
            case rel => exact ⟨k - 1, D1, e1, L, D2, e2, r, D3, e3, h, by first | go_num | (congr 1; omega), by omega, hLl2, ⟨hrl, hhl⟩, ⟨hLs, hr, hh⟩, q9.more (by have := hN0.out; omega)⟩
            case measure => simp [intOf]; omega
      · obtain rfl : k = 0 := by omega
        have hsl' : s.length ≤ 60 := by omega
        clear hsl hk hk0
        replace q : CQ w pb A c l (N + 484) A1 c1 s A2 c2 r A3 c3 h wr := q.more (by omega)
        go_wp2_with fail
        refine (pick_any pb A c l (N + 484) 8 _ q.cur (by omega) (by omega)).mono ?_
        rintro e w3 ⟨_, rfl, ⟨k2, rfl, hk2⟩, hC1, hFn⟩
        replace q := q.step hpb hFn hC1
        have hk2' : k2 ≤ 7 := by omega
        clear hFn hC1 hk2
        go_wp2_with fail
        go_loopw [4] (fun n wr => ∃ (k : Nat) (A1 : Option Addr) (c1 : Nat) (s : List Msg) (A2 : Option Addr) (c2 : Nat) (r : List Msg) (A3 : Option Addr) (c3 : Nat) (h : List Msg), n = .int .i64 k ∧ k ≤ 7 ∧ s.length ≤ 60 ∧ (r.length + k ≤ 7 ∧ h.length + k ≤ 7) ∧ (sm s ∧ sm r ∧ sm h) ∧ CQ w pb A c l (N + 486 + 6 * (7 - k)) A1 c1 s A2 c2 r A3 c3 h wr) (fun n _ => (intOf n).toNat)
        case atStart => exact ⟨k2, A1, c1, s, A2, c2, r, A3, c3, h, rfl, hk2', hsl', ⟨by omega, by omega⟩, ⟨hs, hr, hh⟩, q.more (by omega)⟩
        case round =>
          clear q hk2' hsl' hrl hhl hs hr hh
          obtain ⟨k, A1, c1, s, A2, c2, r, A3, c3, h, rfl, hk, hsl, ⟨hrl, hhl⟩, ⟨hs, hr, hh⟩, q⟩ := hrel
          by_cases hk0 : 0 < k
          · have hk0' : (0 : Int) < k := by omega
            obtain ⟨N0, hN0⟩ : ∃ N0, N0 = 486 + 6 * (7 - k) := ⟨_, rfl⟩
            have hN1 : N0 ≤ 528 := by omega
            replace q : CQ w pb A c l (N + N0) A1 c1 s A2 c2 r A3 c3 h wr := q.more (by omega)
            replace hN0 := Lib.hid hN0
            have x0 := q.x.c0
            go_upto_if 36 with fail
            go_cut [4] from 29 to 58 (fun n wx => n = .int .i64 k ∧ ∃ (D1 : Option Addr) (e1 : Nat) (D2 : Option Addr) (e2 : Nat) (L : List Msg) (D3 : Option Addr) (e3 : Nat), (L.length ≤ r.length + 1 ∧ sm L) ∧ CQ w pb A c l (N + N0 + 2) D1 e1 s D2 e2 L D3 e3 h wx)
            case first =>
              as_aux_lemma =>
                clear x0
                by_cases h0 : 0 < s.length
                · have h0' : (0 : Int) < s.length := by omega
                  go_upto_region 14 with fail
                  refine wp_region_held_drew (S := fun _ => True) (by kernel_rfl) trivial (fun hHeld => ?_)
                  have q114 := q.drew
                  clear q hHeld
                  generalize wr.drew = V114 at q114 ⊢
                  obtain ⟨b0, b1, b2, f0, f1, f2⟩ := id q114.x
                  change wpAnyH _ _ _ _ _ 8 #[false, false, false, false, false, false, false, false] _ _
                  refine wpAnyH_takeL (i := 1) (v := .pointer (some ⟨pb, 0, none⟩)) rfl (by kernel_rfl) (by kernel_rfl) (by kernel_rfl) (fun _ _ _ h => h) (Or.inl ⟨by rfl, fun w' hSw => by go_simp⟩) trivial ?_
                  simp only [Act.put, List.setIfInBounds_toArray, List.set_cons_zero, List.set_cons_succ]
                  refine wpAnyH_takeL (i := 2) (v := .pointer (some ⟨w.heap.size + 1, 0, none⟩)) rfl (by kernel_rfl) (by kernel_rfl) (by kernel_rfl) (fun _ _ _ h => h) (Or.inl ⟨by rfl, fun w' hSw => by go_simp⟩) trivial ?_
                  simp only [Act.put, List.setIfInBounds_toArray, List.set_cons_zero, List.set_cons_succ]
                  refine wpAnyH_ready (rs := [0, 3]) (by kernel_rfl) (by simp) ?_
                  refine AllReadyH.consL rfl (fun K hK => ?_) (AllReadyH.consL rfl (fun K hK => ?_) AllReadyH.nil)
                  · go_simp
                    refine hK.out _ _ trivial (fun _ => ?_)
                    clear hK K
                    simp only [List.setIfInBounds_toArray, List.set_cons_zero]
                    refine wpAnyH_ready (rs := [3]) (by kernel_rfl) (by simp) ?_
                    refine AllReadyH.consL rfl (fun K hK => ?_) AllReadyH.nil
                    go_simp
                    refine hK.out _ _ trivial (fun _ => ?_)
                    clear hK K
                    simp only [List.setIfInBounds_toArray, List.set_cons_zero, List.set_cons_succ]
                    refine wpAnyH_takeL (i := 4) (v := .int .i64 s.length) rfl (by kernel_rfl) (by kernel_rfl) (by kernel_rfl) (fun _ _ _ h => h) (Or.inl ⟨by rfl, fun w' hSw => by go_simp⟩) trivial ?_
                    simp only [Act.put, List.setIfInBounds_toArray, List.set_cons_zero, List.set_cons_succ]
                    refine wpAnyH_ready (rs := [5]) (by kernel_rfl) (by simp) ?_
                    refine AllReadyH.consL rfl (fun K hK => ?_) AllReadyH.nil
                    go_simp
                    refine (pick_any pb A c l (N + N0) _ _ q114.cur (by omega) (by omega)).mono ?_
                    rintro e V115 ⟨_, rfl, ⟨k2, rfl, hk2'⟩, hC, hFn⟩
                    have hk2 : k2 < s.length := by omega
                    have q115 := q114.step hpb hFn hC
                    clear hC hFn hk2' b0 b1 b2 f0 f1 f2 q114
                    obtain ⟨b0, b1, b2, f0, f1, f2⟩ := id q115.x
                    go_simp
                    refine hK.out _ _ trivial (fun _ => ?_)
                    clear hK K
                    simp only [List.setIfInBounds_toArray, List.set_cons_zero, List.set_cons_succ]
                    refine wpAnyH_ready (rs := [6]) (by kernel_rfl) (by simp) ?_
                    refine AllReadyH.consL rfl (fun K hK => ?_) AllReadyH.nil
                    go_simp
                    obtain ⟨y1, y2, y3⟩ := q115.rows
                    obtain ⟨m, hm, hmm⟩ := get_lt (l := s) (i := k2) hk2
                    refine (raDeliver_any A1 c1 s A2 c2 r A3 c3 h _ (by omega) y1 (by omega) y2 (by omega) y3 k2 m hm).mono ?_
                    obtain ⟨w1_, w2_⟩ := hr.add (m := m) (hs m hmm)
                    generalize addW r m = L2 at w1_ w2_ ⊢
                    rintro e V116 ⟨D1, e1, D2, e2, D3, e3, rfl, hI, hb⟩
                    have q116 := q115.below hb
                    have hI2 := hI.lift (b0 := w.heap.size + 2) q115.size
                    clear hb hI y1 y2 y3 hm hmm b0 b1 b2 f0 f1 f2 q115
                    go_simp
                    refine hK.out _ _ trivial (fun _ => ?_)
                    clear hK K
                    simp only [List.setIfInBounds_toArray, List.set_cons_zero, List.set_cons_succ]
                    refine wpAnyH_ready (rs := [7]) (by kernel_rfl) (by simp) ?_
                    refine AllReadyH.consL rfl (fun K hK => ?_) AllReadyH.nil
                    obtain ⟨b0, b1, b2, f0, f1, f2⟩ := id q116.x
                    go_simp
                    have q9 := q116.put hpb hI2
                    clear hI2 b0 b1 b2 f0 f1 f2 q116
                    refine hK.out _ _ trivial (fun _ => ?_)
                    clear hK K
                    simp only [List.setIfInBounds_toArray, List.set_cons_zero, List.set_cons_succ]
                    refine wpAnyH_done (by kernel_rfl) ?_ _
                    generalize (((V116.setCell ⟨w.heap.size + 1, 0, none⟩ (.slice D1 s.length e1)).setCell ⟨w.heap.size + 1, 1, none⟩ (.slice D2 L2.length e2)).setCell ⟨w.heap.size + 1, 2, none⟩ (.slice D3 h.length e3)) = U at q9 ⊢
                    go_wp2_with fail
                    go_meet
                    exact ⟨rfl, D1, e1, D2, e2, L2, D3, e3, ⟨w2_, w1_⟩, q9.more (by omega)⟩
                  · go_simp
                    refine hK.out _ _ trivial (fun _ => ?_)
                    clear hK K
                    simp only [List.setIfInBounds_toArray, List.set_cons_zero, List.set_cons_succ]
                    refine wpAnyH_takeL (i := 4) (v := .int .i64 s.length) rfl (by kernel_rfl) (by kernel_rfl) (by kernel_rfl) (fun _ _ _ h => h) (Or.inl ⟨by rfl, fun w' hSw => by go_simp⟩) trivial ?_
                    simp only [Act.put, List.setIfInBounds_toArray, List.set_cons_zero, List.set_cons_succ]
                    refine wpAnyH_ready (rs := [0, 5]) (by kernel_rfl) (by simp) ?_
                    refine AllReadyH.consL rfl (fun K hK => ?_) (AllReadyH.consL rfl (fun K hK => ?_) AllReadyH.nil)
                    · go_simp
                      refine hK.out _ _ trivial (fun _ => ?_)
                      clear hK K
                      simp only [List.setIfInBounds_toArray, List.set_cons_zero]
                      refine wpAnyH_ready (rs := [5]) (by kernel_rfl) (by simp) ?_
                      refine AllReadyH.consL rfl (fun K hK => ?_) AllReadyH.nil
                      go_simp
                      refine (pick_any pb A c l (N + N0) _ _ q114.cur (by omega) (by omega)).mono ?_
                      rintro e V117 ⟨_, rfl, ⟨k2, rfl, hk2'⟩, hC, hFn⟩
                      have hk2 : k2 < s.length := by omega
                      have q117 := q114.step hpb hFn hC
                      clear hC hFn hk2' b0 b1 b2 f0 f1 f2 q114
                      obtain ⟨b0, b1, b2, f0, f1, f2⟩ := id q117.x
                      go_simp
                      refine hK.out _ _ trivial (fun _ => ?_)
                      clear hK K
                      simp only [List.setIfInBounds_toArray, List.set_cons_zero, List.set_cons_succ]
                      refine wpAnyH_ready (rs := [6]) (by kernel_rfl) (by simp) ?_
                      refine AllReadyH.consL rfl (fun K hK => ?_) AllReadyH.nil
                      go_simp
                      obtain ⟨y1, y2, y3⟩ := q117.rows
                      obtain ⟨m, hm, hmm⟩ := get_lt (l := s) (i := k2) hk2
                      refine (raDeliver_any A1 c1 s A2 c2 r A3 c3 h _ (by omega) y1 (by omega) y2 (by omega) y3 k2 m hm).mono ?_
                      obtain ⟨w1_, w2_⟩ := hr.add (m := m) (hs m hmm)
                      generalize addW r m = L2 at w1_ w2_ ⊢
                      rintro e V118 ⟨D1, e1, D2, e2, D3, e3, rfl, hI, hb⟩
                      have q118 := q117.below hb
                      have hI2 := hI.lift (b0 := w.heap.size + 2) q117.size
                      clear hb hI y1 y2 y3 hm hmm b0 b1 b2 f0 f1 f2 q117
                      go_simp
                      refine hK.out _ _ trivial (fun _ => ?_)
                      clear hK K
                      simp only [List.setIfInBounds_toArray, List.set_cons_zero, List.set_cons_succ]
                      refine wpAnyH_ready (rs := [7]) (by kernel_rfl) (by simp) ?_
                      refine AllReadyH.consL rfl (fun K hK => ?_) AllReadyH.nil
                      obtain ⟨b0, b1, b2, f0, f1, f2⟩ := id q118.x
                      go_simp
                      have q9 := q118.put hpb hI2
                      clear hI2 b0 b1 b2 f0 f1 f2 q118
                      refine hK.out _ _ trivial (fun _ => ?_)
                      clear hK K
                      simp only [List.setIfInBounds_toArray, List.set_cons_zero, List.set_cons_succ]
                      refine wpAnyH_done (by kernel_rfl) ?_ _
                      generalize (((V118.setCell ⟨w.heap.size + 1, 0, none⟩ (.slice D1 s.length e1)).setCell ⟨w.heap.size + 1, 1, none⟩ (.slice D2 L2.length e2)).setCell ⟨w.heap.size + 1, 2, none⟩ (.slice D3 h.length e3)) = U at q9 ⊢
                      go_wp2_with fail
                      go_meet
                      exact ⟨rfl, D1, e1, D2, e2, L2, D3, e3, ⟨w2_, w1_⟩, q9.more (by omega)⟩
                    · go_simp
                      refine (pick_any pb A c l (N + N0) _ _ q114.cur (by omega) (by omega)).mono ?_
                      rintro e V119 ⟨_, rfl, ⟨k2, rfl, hk2'⟩, hC, hFn⟩
                      have hk2 : k2 < s.length := by omega
                      have q119 := q114.step hpb hFn hC
                      clear hC hFn hk2' b0 b1 b2 f0 f1 f2 q114
                      obtain ⟨b0, b1, b2, f0, f1, f2⟩ := id q119.x
                      go_simp
                      refine hK.out _ _ trivial (fun _ => ?_)
                      clear hK K
                      simp only [List.setIfInBounds_toArray, List.set_cons_zero, List.set_cons_succ]
                      refine wpAnyH_ready (rs := [0]) (by kernel_rfl) (by simp) ?_
                      refine AllReadyH.consL rfl (fun K hK => ?_) AllReadyH.nil
                      go_simp
                      refine hK.out _ _ trivial (fun _ => ?_)
                      clear hK K
                      simp only [List.setIfInBounds_toArray, List.set_cons_zero]
                      refine wpAnyH_ready (rs := [6]) (by kernel_rfl) (by simp) ?_
                      refine AllReadyH.consL rfl (fun K hK => ?_) AllReadyH.nil
                      go_simp
                      obtain ⟨y1, y2, y3⟩ := q119.rows
                      obtain ⟨m, hm, hmm⟩ := get_lt (l := s) (i := k2) hk2
                      refine (raDeliver_any A1 c1 s A2 c2 r A3 c3 h _ (by omega) y1 (by omega) y2 (by omega) y3 k2 m hm).mono ?_
                      obtain ⟨w1_, w2_⟩ := hr.add (m := m) (hs m hmm)
                      generalize addW r m = L2 at w1_ w2_ ⊢
                      rintro e V120 ⟨D1, e1, D2, e2, D3, e3, rfl, hI, hb⟩
                      have q120 := q119.below hb
                      have hI2 := hI.lift (b0 := w.heap.size + 2) q119.size
                      clear hb hI y1 y2 y3 hm hmm b0 b1 b2 f0 f1 f2 q119
                      go_simp
                      refine hK.out _ _ trivial (fun _ => ?_)
                      clear hK K
                      simp only [List.setIfInBounds_toArray, List.set_cons_zero, List.set_cons_succ]
                      refine wpAnyH_ready (rs := [7]) (by kernel_rfl) (by simp) ?_
                      refine AllReadyH.consL rfl (fun K hK => ?_) AllReadyH.nil
                      obtain ⟨b0, b1, b2, f0, f1, f2⟩ := id q120.x
                      go_simp
                      have q9 := q120.put hpb hI2
                      clear hI2 b0 b1 b2 f0 f1 f2 q120
                      refine hK.out _ _ trivial (fun _ => ?_)
                      clear hK K
                      simp only [List.setIfInBounds_toArray, List.set_cons_zero, List.set_cons_succ]
                      refine wpAnyH_done (by kernel_rfl) ?_ _
                      generalize (((V120.setCell ⟨w.heap.size + 1, 0, none⟩ (.slice D1 s.length e1)).setCell ⟨w.heap.size + 1, 1, none⟩ (.slice D2 L2.length e2)).setCell ⟨w.heap.size + 1, 2, none⟩ (.slice D3 h.length e3)) = U at q9 ⊢
                      go_wp2_with fail
                      go_meet
                      exact ⟨rfl, D1, e1, D2, e2, L2, D3, e3, ⟨w2_, w1_⟩, q9.more (by omega)⟩
                · have h0' : ¬ (0 : Int) < s.length := by omega
                  go_wp2_with fail
                  go_meet
                  exact ⟨rfl, A1, c1, A2, c2, r, A3, c3, ⟨by omega, hr⟩, q.more (by omega)⟩
            case rest =>
              obtain ⟨rfl, D1, e1, D2, e2, L, D3, e3, ⟨hLl, hLs⟩, q1⟩ := hcut
              clear q x0 hr
              have hLl2 : L.length + (k - 1) ≤ 7 := by omega
              clear hLl hrl
              have x1 := q1.x.c1
              go_upto_region 15 with fail
              go_cut [51] from 29 to 58 (fun v wx => ∃ b : Bool, v = .bool b ∧ (b = true → 0 < L.length) ∧ CQ w pb A c l (N + N0 + 4) D1 e1 s D2 e2 L D3 e3 h wx)
              case first =>
                as_aux_lemma =>
                  by_cases h0 : 0 < L.length
                  · have h0' : (0 : Int) < L.length := by omega
                    go_wp2_with fail
                    refine (one_any pb A c l (N + N0 + 2) 2 _ q1.cur (by omega) (by omega)).mono ?_
                    rintro e w4 ⟨_, rfl, ⟨b, rfl⟩, hC1, hFn⟩
                    replace q1 := q1.step hpb hFn hC1
                    clear hFn hC1 x1
                    go_wp2_with fail
                    go_meet
                    exact ⟨b, rfl, fun _ => h0, q1⟩
                  · have h0' : ¬ (0 : Int) < L.length := by omega
                    go_wp2_with fail
                    go_meet
                    exact ⟨false, rfl, fun h => (by cases h), q1.more (by omega)⟩
              case rest =>
                obtain ⟨b, rfl, hb0, q⟩ := hcut
                clear q1 x1
                cases b with
                | false =>
                  clear hb0
                  go_wp2
                  go_roundw
                  case rel => exact ⟨k - 1, D1, e1, s, D2, e2, L, D3, e3, h, by first | go_num | (congr 1; omega), by omega, hsl, ⟨hLl2, by omega⟩, ⟨hs, hLs, hh⟩, q.more (by have := hN0.out; omega)⟩
                  case measure => simp [intOf]; omega
                | true =>
                  have h0 := hb0 rfl
                  clear hb0
                  obtain ⟨A1, e_⟩ : ∃ z, z = D1 := ⟨_, rfl⟩
                  subst e_
                  obtain ⟨c1, e_⟩ : ∃ z, z = e1 := ⟨_, rfl⟩
                  subst e_
                  obtain ⟨A2, e_⟩ : ∃ z, z = D2 := ⟨_, rfl⟩
                  subst e_
                  obtain ⟨c2, e_⟩ : ∃ z, z = e2 := ⟨_, rfl⟩
                  subst e_
                  obtain ⟨A3, e_⟩ : ∃ z, z = D3 := ⟨_, rfl⟩
                  subst e_
                  obtain ⟨c3, e_⟩ : ∃ z, z = e3 := ⟨_, rfl⟩
                  subst e_
                  obtain ⟨r, e_⟩ : ∃ z, z = L := ⟨_, rfl⟩
                  subst e_
                  have hr := hLs
                  clear hLs
                  go_upto_region 16 with fail
                  as_aux_lemma =>
                    have h0' : (0 : Int) < r.length := by omega
                    have hrl' : r.length ≤ 7 := by omega
                    refine wp_region_held_drew (S := fun _ => True) (by kernel_rfl) trivial (fun hHeld => ?_)
                    have q221 := q.drew
                    clear q hHeld
                    generalize wc.drew = V221 at q221 ⊢
                    obtain ⟨b0, b1, b2, f0, f1, f2⟩ := id q221.x
                    change wpAnyH _ _ _ _ _ 8 #[false, false, false, false, false, false, false, false] _ _
                    refine wpAnyH_takeL (i := 1) (v := .pointer (some ⟨pb, 0, none⟩)) rfl (by kernel_rfl) (by kernel_rfl) (by kernel_rfl) (fun _ _ _ h => h) (Or.inl ⟨by rfl, fun w' hSw => by go_simp⟩) trivial ?_
                    simp only [Act.put, List.setIfInBounds_toArray, List.set_cons_zero, List.set_cons_succ]
                    refine wpAnyH_takeL (i := 2) (v := .pointer (some ⟨w.heap.size + 1, 1, none⟩)) rfl (by kernel_rfl) (by kernel_rfl) (by kernel_rfl) (fun _ _ _ h => h) (Or.inl ⟨by rfl, fun w' hSw => by go_simp⟩) trivial ?_
                    simp only [Act.put, List.setIfInBounds_toArray, List.set_cons_zero, List.set_cons_succ]
                    refine wpAnyH_ready (rs := [0, 3]) (by kernel_rfl) (by simp) ?_
                    refine AllReadyH.consL rfl (fun K hK => ?_) (AllReadyH.consL rfl (fun K hK => ?_) AllReadyH.nil)
                    · go_simp
                      refine hK.out _ _ trivial (fun _ => ?_)
                      clear hK K
                      simp only [List.setIfInBounds_toArray, List.set_cons_zero]
                      refine wpAnyH_ready (rs := [3]) (by kernel_rfl) (by simp) ?_
                      refine AllReadyH.consL rfl (fun K hK => ?_) AllReadyH.nil
                      go_simp
                      refine hK.out _ _ trivial (fun _ => ?_)
                      clear hK K
                      simp only [List.setIfInBounds_toArray, List.set_cons_zero, List.set_cons_succ]
                      refine wpAnyH_takeL (i := 4) (v := .int .i64 r.length) rfl (by kernel_rfl) (by kernel_rfl) (by kernel_rfl) (fun _ _ _ h => h) (Or.inl ⟨by rfl, fun w' hSw => by go_simp⟩) trivial ?_
                      simp only [Act.put, List.setIfInBounds_toArray, List.set_cons_zero, List.set_cons_succ]
                      refine wpAnyH_ready (rs := [5]) (by kernel_rfl) (by simp) ?_
                      refine AllReadyH.consL rfl (fun K hK => ?_) AllReadyH.nil
                      go_simp
                      refine (pick_any pb A c l (N + N0 + 4) _ _ q221.cur (by omega) (by omega)).mono ?_
                      rintro e V222 ⟨_, rfl, ⟨k2, rfl, hk2'⟩, hC, hFn⟩
                      have hk2 : k2 < r.length := by omega
                      have q222 := q221.step hpb hFn hC
                      clear hC hFn hk2' b0 b1 b2 f0 f1 f2 q221
                      obtain ⟨b0, b1, b2, f0, f1, f2⟩ := id q222.x
                      go_simp
                      refine hK.out _ _ trivial (fun _ => ?_)
                      clear hK K
                      simp only [List.setIfInBounds_toArray, List.set_cons_zero, List.set_cons_succ]
                      refine wpAnyH_ready (rs := [6]) (by kernel_rfl) (by simp) ?_
                      refine AllReadyH.consL rfl (fun K hK => ?_) AllReadyH.nil
                      go_simp
                      obtain ⟨y1, y2, y3⟩ := q222.rows
                      obtain ⟨m, hm, hmm⟩ := get_lt (l := r) (i := k2) hk2
                      refine (raConfirm_any A1 c1 s A2 c2 r A3 c3 h _ (by omega) y1 (by omega) y2 (by omega) y3 k2 m hm).mono ?_
                      obtain ⟨w1_, w2_⟩ := hh.add (m := m) (hr m hmm)
                      generalize addW h m = L2 at w1_ w2_ ⊢
                      rintro e V223 ⟨D1, e1, D2, e2, D3, e3, rfl, hI, hb⟩
                      have q223 := q222.below hb
                      have hI2 := hI.lift (b0 := w.heap.size + 2) q222.size
                      clear hb hI y1 y2 y3 hm hmm b0 b1 b2 f0 f1 f2 q222
                      go_simp
                      refine hK.out _ _ trivial (fun _ => ?_)
                      clear hK K
                      simp only [List.setIfInBounds_toArray, List.set_cons_zero, List.set_cons_succ]
                      refine wpAnyH_ready (rs := [7]) (by kernel_rfl) (by simp) ?_
                      refine AllReadyH.consL rfl (fun K hK => ?_) AllReadyH.nil
                      obtain ⟨b0, b1, b2, f0, f1, f2⟩ := id q223.x
                      go_simp
                      have q9 := q223.put hpb hI2
                      clear hI2 b0 b1 b2 f0 f1 f2 q223
                      refine hK.out _ _ trivial (fun _ => ?_)
                      clear hK K
                      simp only [List.setIfInBounds_toArray, List.set_cons_zero, List.set_cons_succ]
                      refine wpAnyH_done (by kernel_rfl) ?_ _
                      generalize (((V223.setCell ⟨w.heap.size + 1, 0, none⟩ (.slice D1 s.length e1)).setCell ⟨w.heap.size + 1, 1, none⟩ (.slice D2 r.length e2)).setCell ⟨w.heap.size + 1, 2, none⟩ (.slice D3 L2.length e3)) = U at q9 ⊢
                      go_wp2
                      go_roundw
                      case rel => exact ⟨k - 1, D1, e1, s, D2, e2, r, D3, e3, L2, by first | go_num | (congr 1; omega), by omega, hsl, ⟨hLl2, by omega⟩, ⟨hs, hr, w1_⟩, q9.more (by have := hN0.out; omega)⟩
                      case measure => simp [intOf]; omega
                    · go_simp
                      refine hK.out _ _ trivial (fun _ => ?_)
                      clear hK K
                      simp only [List.setIfInBounds_toArray, List.set_cons_zero, List.set_cons_succ]
                      refine wpAnyH_takeL (i := 4) (v := .int .i64 r.length) rfl (by kernel_rfl) (by kernel_rfl) (by kernel_rfl) (fun _ _ _ h => h) (Or.inl ⟨by rfl, fun w' hSw => by go_simp⟩) trivial ?_
                      simp only [Act.put, List.setIfInBounds_toArray, List.set_cons_zero, List.set_cons_succ]
                      refine wpAnyH_ready (rs := [0, 5]) (by kernel_rfl) (by simp) ?_
                      refine AllReadyH.consL rfl (fun K hK => ?_) (AllReadyH.consL rfl (fun K hK => ?_) AllReadyH.nil)
                      · go_simp
                        refine hK.out _ _ trivial (fun _ => ?_)
                        clear hK K
                        simp only [List.setIfInBounds_toArray, List.set_cons_zero]
                        refine wpAnyH_ready (rs := [5]) (by kernel_rfl) (by simp) ?_
                        refine AllReadyH.consL rfl (fun K hK => ?_) AllReadyH.nil
                        go_simp
                        refine (pick_any pb A c l (N + N0 + 4) _ _ q221.cur (by omega) (by omega)).mono ?_
                        rintro e V224 ⟨_, rfl, ⟨k2, rfl, hk2'⟩, hC, hFn⟩
                        have hk2 : k2 < r.length := by omega
                        have q224 := q221.step hpb hFn hC
                        clear hC hFn hk2' b0 b1 b2 f0 f1 f2 q221
                        obtain ⟨b0, b1, b2, f0, f1, f2⟩ := id q224.x
                        go_simp
                        refine hK.out _ _ trivial (fun _ => ?_)
                        clear hK K
                        simp only [List.setIfInBounds_toArray, List.set_cons_zero, List.set_cons_succ]
                        refine wpAnyH_ready (rs := [6]) (by kernel_rfl) (by simp) ?_
                        refine AllReadyH.consL rfl (fun K hK => ?_) AllReadyH.nil
                        go_simp
                        obtain ⟨y1, y2, y3⟩ := q224.rows
                        obtain ⟨m, hm, hmm⟩ := get_lt (l := r) (i := k2) hk2
                        refine (raConfirm_any A1 c1 s A2 c2 r A3 c3 h _ (by omega) y1 (by omega) y2 (by omega) y3 k2 m hm).mono ?_
                        obtain ⟨w1_, w2_⟩ := hh.add (m := m) (hr m hmm)
                        generalize addW h m = L2 at w1_ w2_ ⊢
                        rintro e V225 ⟨D1, e1, D2, e2, D3, e3, rfl, hI, hb⟩
                        have q225 := q224.below hb
                        have hI2 := hI.lift (b0 := w.heap.size + 2) q224.size
                        clear hb hI y1 y2 y3 hm hmm b0 b1 b2 f0 f1 f2 q224
                        go_simp
                        refine hK.out _ _ trivial (fun _ => ?_)
                        clear hK K
                        simp only [List.setIfInBounds_toArray, List.set_cons_zero, List.set_cons_succ]
                        refine wpAnyH_ready (rs := [7]) (by kernel_rfl) (by simp) ?_
                        refine AllReadyH.consL rfl (fun K hK => ?_) AllReadyH.nil
                        obtain ⟨b0, b1, b2, f0, f1, f2⟩ := id q225.x
                        go_simp
                        have q9 := q225.put hpb hI2
                        clear hI2 b0 b1 b2 f0 f1 f2 q225
                        refine hK.out _ _ trivial (fun _ => ?_)
                        clear hK K
                        simp only [List.setIfInBounds_toArray, List.set_cons_zero, List.set_cons_succ]
                        refine wpAnyH_done (by kernel_rfl) ?_ _
                        generalize (((V225.setCell ⟨w.heap.size + 1, 0, none⟩ (.slice D1 s.length e1)).setCell ⟨w.heap.size + 1, 1, none⟩ (.slice D2 r.length e2)).setCell ⟨w.heap.size + 1, 2, none⟩ (.slice D3 L2.length e3)) = U at q9 ⊢
                        go_wp2
                        go_roundw
                        case rel => exact ⟨k - 1, D1, e1, s, D2, e2, r, D3, e3, L2, by first | go_num | (congr 1; omega), by omega, hsl, ⟨hLl2, by omega⟩, ⟨hs, hr, w1_⟩, q9.more (by have := hN0.out; omega)⟩
                        case measure => simp [intOf]; omega
                      · go_simp
                        refine (pick_any pb A c l (N + N0 + 4) _ _ q221.cur (by omega) (by omega)).mono ?_
                        rintro e V226 ⟨_, rfl, ⟨k2, rfl, hk2'⟩, hC, hFn⟩
                        have hk2 : k2 < r.length := by omega
                        have q226 := q221.step hpb hFn hC
                        clear hC hFn hk2' b0 b1 b2 f0 f1 f2 q221
                        obtain ⟨b0, b1, b2, f0, f1, f2⟩ := id q226.x
                        go_simp
                        refine hK.out _ _ trivial (fun _ => ?_)
                        clear hK K
                        simp only [List.setIfInBounds_toArray, List.set_cons_zero, List.set_cons_succ]
                        refine wpAnyH_ready (rs := [0]) (by kernel_rfl) (by simp) ?_
                        refine AllReadyH.consL rfl (fun K hK => ?_) AllReadyH.nil
                        go_simp
                        refine hK.out _ _ trivial (fun _ => ?_)
                        clear hK K
                        simp only [List.setIfInBounds_toArray, List.set_cons_zero]
                        refine wpAnyH_ready (rs := [6]) (by kernel_rfl) (by simp) ?_
                        refine AllReadyH.consL rfl (fun K hK => ?_) AllReadyH.nil
                        go_simp
                        obtain ⟨y1, y2, y3⟩ := q226.rows
                        obtain ⟨m, hm, hmm⟩ := get_lt (l := r) (i := k2) hk2
                        refine (raConfirm_any A1 c1 s A2 c2 r A3 c3 h _ (by omega) y1 (by omega) y2 (by omega) y3 k2 m hm).mono ?_
                        obtain ⟨w1_, w2_⟩ := hh.add (m := m) (hr m hmm)
                        generalize addW h m = L2 at w1_ w2_ ⊢
                        rintro e V227 ⟨D1, e1, D2, e2, D3, e3, rfl, hI, hb⟩
                        have q227 := q226.below hb
                        have hI2 := hI.lift (b0 := w.heap.size + 2) q226.size
                        clear hb hI y1 y2 y3 hm hmm b0 b1 b2 f0 f1 f2 q226
                        go_simp
                        refine hK.out _ _ trivial (fun _ => ?_)
                        clear hK K
                        simp only [List.setIfInBounds_toArray, List.set_cons_zero, List.set_cons_succ]
                        refine wpAnyH_ready (rs := [7]) (by kernel_rfl) (by simp) ?_
                        refine AllReadyH.consL rfl (fun K hK => ?_) AllReadyH.nil
                        obtain ⟨b0, b1, b2, f0, f1, f2⟩ := id q227.x
                        go_simp
                        have q9 := q227.put hpb hI2
                        clear hI2 b0 b1 b2 f0 f1 f2 q227
                        refine hK.out _ _ trivial (fun _ => ?_)
                        clear hK K
                        simp only [List.setIfInBounds_toArray, List.set_cons_zero, List.set_cons_succ]
                        refine wpAnyH_done (by kernel_rfl) ?_ _
                        generalize (((V227.setCell ⟨w.heap.size + 1, 0, none⟩ (.slice D1 s.length e1)).setCell ⟨w.heap.size + 1, 1, none⟩ (.slice D2 r.length e2)).setCell ⟨w.heap.size + 1, 2, none⟩ (.slice D3 L2.length e3)) = U at q9 ⊢
                        go_wp2
                        go_roundw
                        case rel => exact ⟨k - 1, D1, e1, s, D2, e2, r, D3, e3, L2, by first | go_num | (congr 1; omega), by omega, hsl, ⟨hLl2, by omega⟩, ⟨hs, hr, w1_⟩, q9.more (by have := hN0.out; omega)⟩
                        case measure => simp [intOf]; omega
          · obtain rfl : k = 0 := by omega
            clear hk hk0
            replace q : CQ w pb A c l (N + 528) A1 c1 s A2 c2 r A3 c3 h wr := q.more (by omega)
            go_wp2_with fail
            refine (pick_any pb A c l (N + 528) 40 _ q.cur (by omega) (by omega)).mono ?_
            rintro e w4 ⟨_, rfl, ⟨m, rfl, _⟩, hC1, hFn⟩
            replace q := q.step hpb hFn hC1
            clear hFn hC1
            by_cases e0 : m = 0
            · have q00 : ((m : Int) == 0) = true := by simp [e0]
              clear e0
              go_upto_region 19 with fail
              as_aux_lemma =>
                refine wp_region_held_drew (S := fun _ => True) (by kernel_rfl) trivial (fun hHeld => ?_)
                have q328 := q.drew
                clear q hHeld
                generalize w4.drew = V328 at q328 ⊢
                obtain ⟨b0, b1, b2, f0, f1, f2⟩ := id q328.x
                change wpAnyH _ _ _ _ _ 8 #[false, false, false, false, false, false, false, false] _ _
                refine wpAnyH_takeL (i := 0) (v := .pointer (some ⟨w.heap.size + 1, 0, none⟩)) rfl (by kernel_rfl) (by kernel_rfl) (by kernel_rfl) (fun _ _ _ h => h) (Or.inl ⟨by rfl, fun w' hSw => by go_simp⟩) trivial ?_
                simp only [Act.put, List.setIfInBounds_toArray, List.set_cons_zero, List.set_cons_succ]
                refine wpAnyH_takeL (i := 2) (v := .pointer (some ⟨pb, 0, none⟩)) rfl (by kernel_rfl) (by kernel_rfl) (by kernel_rfl) (fun _ _ _ h => h) (Or.inl ⟨by rfl, fun w' hSw => by go_simp⟩) trivial ?_
                simp only [Act.put, List.setIfInBounds_toArray, List.set_cons_zero, List.set_cons_succ]
                refine wpAnyH_ready (rs := [1, 3]) (by kernel_rfl) (by simp) ?_
                refine AllReadyH.consL rfl (fun K hK => ?_) (AllReadyH.consL rfl (fun K hK => ?_) AllReadyH.nil)
                · go_simp
                  refine hK.out _ _ trivial (fun _ => ?_)
                  clear hK K
                  simp only [List.setIfInBounds_toArray, List.set_cons_zero, List.set_cons_succ]
                  refine wpAnyH_ready (rs := [3]) (by kernel_rfl) (by simp) ?_
                  refine AllReadyH.consL rfl (fun K hK => ?_) AllReadyH.nil
                  go_simp
                  refine (message_any pb A c l (N + 530) _ q328.cur (by omega)).mono ?_
                  rintro e V329 ⟨x, hx, rfl, hC, hFn⟩
                  have q329 := q328.step hpb hFn hC
                  clear hC hFn b0 b1 b2 f0 f1 f2 q328
                  obtain ⟨b0, b1, b2, f0, f1, f2⟩ := id q329.x
                  go_simp
                  refine hK.out _ _ trivial (fun _ => ?_)
                  clear hK K
                  simp only [List.setIfInBounds_toArray, List.set_cons_zero, List.set_cons_succ]
                  refine wpAnyH_ready (rs := [4]) (by kernel_rfl) (by simp) ?_
                  refine AllReadyH.consL rfl (fun K hK => ?_) AllReadyH.nil
                  go_simp
                  have q330 := q329.alloc (.cells #[.string x.f, .int .i64 x.n, .string x.b] 33)
                  have hsl1 := sl_oneM V329 x
                  clear b0 b1 b2 f0 f1 f2
                  obtain ⟨b0, b1, b2, f0, f1, f2⟩ := id q330.x
                  refine hK.out _ _ trivial (fun _ => ?_)
                  clear hK K
                  simp only [List.setIfInBounds_toArray, List.set_cons_zero, List.set_cons_succ]
                  obtain ⟨pv, hpv⟩ : ∃ pv, pv = V329.heap.size := ⟨_, rfl⟩
                  rw [← hpv] at hsl1 ⊢
                  clear q329 hpv
                  generalize V329.alloc (.cells #[.string x.f, .int .i64 x.n, .string x.b] 33) = V330 at q330 hsl1 b0 b1 b2 f0 f1 f2 ⊢
                  refine wpAnyH_ready (rs := [5]) (by kernel_rfl) (by simp) ?_
                  refine AllReadyH.consL rfl (fun K hK => ?_) AllReadyH.nil
                  rw [if_pos (by rfl)]
                  refine wp_append_all V330 (.tmp 64) (.tmp 67) _ rfl i0 _ _ Tryz.underlying24 hi0 hv0 hv1 hv2 rfl (by omega) Msg.len Msg.one q330.o.o1 hsl1 rfl rfl (by simp only [List.length_cons, List.length_nil]; unfold maxLen; omega) (by simp only [List.length_cons, List.length_nil]; omega) q330.size ?_
                  intro A' c' U hO2 hb2 hbut hdis
                  have hI2 := q330.o.push1 hO2 hbut hdis
                  obtain ⟨L2, hL2⟩ : ∃ L2, Hid (L2 = s ++ [x]) := ⟨_, Lib.hid rfl⟩
                  have hln : L2.length ≤ s.length + 1 := by rw [hL2.out]; simp
                  have hs2 : sm L2 := by rw [hL2.out]; exact hs.app (sm.one hx)
                  rw [← hL2.out] at hI2 hO2 ⊢
                  obtain ⟨b0, b1, b2, f0, f1, f2⟩ := q330.x.upto (B := w.heap.size + 2) (Nat.lt_succ_self _) hb2
                  have q9 := q330.app0 hpb hb2 hI2
                  clear hb2 hbut hdis hI2 hO2 hL2 q330 hsl1
                  refine hK.out _ _ trivial (fun _ => ?_)
                  clear hK K
                  simp only [Act.put, List.setIfInBounds_toArray, List.set_cons_zero, List.set_cons_succ]
                  refine wpAnyH_takeL (i := 6) (v := .pointer (some ⟨w.heap.size + 1, 0, none⟩)) rfl (by kernel_rfl) (by kernel_rfl) (by kernel_rfl) (fun _ _ _ h => h) (Or.inl ⟨by rfl, fun w' hSw => by go_simp⟩) trivial ?_
                  simp only [Act.put, List.setIfInBounds_toArray, List.set_cons_zero, List.set_cons_succ]
                  refine wpAnyH_ready (rs := [7]) (by kernel_rfl) (by simp) ?_
                  refine AllReadyH.consL rfl (fun K hK => ?_) AllReadyH.nil
                  go_simp
                  clear b0 b1 b2 f0 f1 f2
                  refine hK.out _ _ trivial (fun _ => ?_)
                  clear hK K
                  simp only [List.setIfInBounds_toArray, List.set_cons_zero, List.set_cons_succ]
                  refine wpAnyH_done (by kernel_rfl) ?_ _
                  generalize U.setCell ⟨w.heap.size + 1, 0, none⟩ (.slice A' L2.length c') = U2 at q9 ⊢
                  obtain ⟨b0, b1, b2, f0, f1, f2⟩ := id q9.x
                  have r0 := (q9.z 0 _ rfl).1
                  have r1 := (q9.z 1 _ rfl).1
                  have r2 := (q9.z 2 _ rfl).1
                  have g0 := (q9.z 0 _ rfl).2
                  have g1 := (q9.z 1 _ rfl).2
                  have g2 := (q9.z 2 _ rfl).2
                  obtain ⟨hRR, hOO, hCC, hFF⟩ := q9.fin hpb
                  have z0 := (hRR 0 _ rfl).1
                  have z1 := (hRR 1 _ rfl).1
                  have z2 := (hRR 2 _ rfl).1
                  clear q9 hRR
                  go_wp2
                  refine bodyPost_ret (by simp [results, Tryz.results61, go_sem, z0, z1, z2]; try rfl) rfl ?_
                  exact ⟨A', c', L2, A2, c2, r, A3, c3, h, rfl, ⟨by omega, by omega, by omega⟩, ⟨hs2, hr, hh⟩, hOO, hCC.more (by omega), hFF⟩
                · go_simp
                  refine (message_any pb A c l (N + 530) _ q328.cur (by omega)).mono ?_
                  rintro e V332 ⟨x, hx, rfl, hC, hFn⟩
                  have q332 := q328.step hpb hFn hC
                  clear hC hFn b0 b1 b2 f0 f1 f2 q328
                  obtain ⟨b0, b1, b2, f0, f1, f2⟩ := id q332.x
                  go_simp
                  refine hK.out _ _ trivial (fun _ => ?_)
                  clear hK K
                  simp only [List.setIfInBounds_toArray, List.set_cons_zero, List.set_cons_succ]
                  refine wpAnyH_ready (rs := [1, 4]) (by kernel_rfl) (by simp) ?_
                  refine AllReadyH.consL rfl (fun K hK => ?_) (AllReadyH.consL rfl (fun K hK => ?_) AllReadyH.nil)
                  · go_simp
                    refine hK.out _ _ trivial (fun _ => ?_)
                    clear hK K
                    simp only [List.setIfInBounds_toArray, List.set_cons_zero, List.set_cons_succ]
                    refine wpAnyH_ready (rs := [4]) (by kernel_rfl) (by simp) ?_
                    refine AllReadyH.consL rfl (fun K hK => ?_) AllReadyH.nil
                    go_simp
                    have q333 := q332.alloc (.cells #[.string x.f, .int .i64 x.n, .string x.b] 33)
                    have hsl1 := sl_oneM V332 x
                    clear b0 b1 b2 f0 f1 f2
                    obtain ⟨b0, b1, b2, f0, f1, f2⟩ := id q333.x
                    refine hK.out _ _ trivial (fun _ => ?_)
                    clear hK K
                    simp only [List.setIfInBounds_toArray, List.set_cons_zero, List.set_cons_succ]
                    obtain ⟨pv, hpv⟩ : ∃ pv, pv = V332.heap.size := ⟨_, rfl⟩
                    rw [← hpv] at hsl1 ⊢
                    clear q332 hpv
                    generalize V332.alloc (.cells #[.string x.f, .int .i64 x.n, .string x.b] 33) = V333 at q333 hsl1 b0 b1 b2 f0 f1 f2 ⊢
                    refine wpAnyH_ready (rs := [5]) (by kernel_rfl) (by simp) ?_
                    refine AllReadyH.consL rfl (fun K hK => ?_) AllReadyH.nil
                    rw [if_pos (by rfl)]
                    refine wp_append_all V333 (.tmp 64) (.tmp 67) _ rfl i0 _ _ Tryz.underlying24 hi0 hv0 hv1 hv2 rfl (by omega) Msg.len Msg.one q333.o.o1 hsl1 rfl rfl (by simp only [List.length_cons, List.length_nil]; unfold maxLen; omega) (by simp only [List.length_cons, List.length_nil]; omega) q333.size ?_
                    intro A' c' U hO2 hb2 hbut hdis
                    have hI2 := q333.o.push1 hO2 hbut hdis
                    obtain ⟨L2, hL2⟩ : ∃ L2, Hid (L2 = s ++ [x]) := ⟨_, Lib.hid rfl⟩
                    have hln : L2.length ≤ s.length + 1 := by rw [hL2.out]; simp
                    have hs2 : sm L2 := by rw [hL2.out]; exact hs.app (sm.one hx)
                    rw [← hL2.out] at hI2 hO2 ⊢
                    obtain ⟨b0, b1, b2, f0, f1, f2⟩ := q333.x.upto (B := w.heap.size + 2) (Nat.lt_succ_self _) hb2
                    have q9 := q333.app0 hpb hb2 hI2
                    clear hb2 hbut hdis hI2 hO2 hL2 q333 hsl1
                    refine hK.out _ _ trivial (fun _ => ?_)
                    clear hK K
                    simp only [Act.put, List.setIfInBounds_toArray, List.set_cons_zero, List.set_cons_succ]
                    refine wpAnyH_takeL (i := 6) (v := .pointer (some ⟨w.heap.size + 1, 0, none⟩)) rfl (by kernel_rfl) (by kernel_rfl) (by kernel_rfl) (fun _ _ _ h => h) (Or.inl ⟨by rfl, fun w' hSw => by go_simp⟩) trivial ?_
                    simp only [Act.put, List.setIfInBounds_toArray, List.set_cons_zero, List.set_cons_succ]
                    refine wpAnyH_ready (rs := [7]) (by kernel_rfl) (by simp) ?_
                    refine AllReadyH.consL rfl (fun K hK => ?_) AllReadyH.nil
                    go_simp
                    clear b0 b1 b2 f0 f1 f2
                    refine hK.out _ _ trivial (fun _ => ?_)
                    clear hK K
                    simp only [List.setIfInBounds_toArray, List.set_cons_zero, List.set_cons_succ]
                    refine wpAnyH_done (by kernel_rfl) ?_ _
                    generalize U.setCell ⟨w.heap.size + 1, 0, none⟩ (.slice A' L2.length c') = U2 at q9 ⊢
                    obtain ⟨b0, b1, b2, f0, f1, f2⟩ := id q9.x
                    have r0 := (q9.z 0 _ rfl).1
                    have r1 := (q9.z 1 _ rfl).1
                    have r2 := (q9.z 2 _ rfl).1
                    have g0 := (q9.z 0 _ rfl).2
                    have g1 := (q9.z 1 _ rfl).2
                    have g2 := (q9.z 2 _ rfl).2
                    obtain ⟨hRR, hOO, hCC, hFF⟩ := q9.fin hpb
                    have z0 := (hRR 0 _ rfl).1
                    have z1 := (hRR 1 _ rfl).1
                    have z2 := (hRR 2 _ rfl).1
                    clear q9 hRR
                    go_wp2
                    refine bodyPost_ret (by simp [results, Tryz.results61, go_sem, z0, z1, z2]; try rfl) rfl ?_
                    exact ⟨A', c', L2, A2, c2, r, A3, c3, h, rfl, ⟨by omega, by omega, by omega⟩, ⟨hs2, hr, hh⟩, hOO, hCC.more (by omega), hFF⟩
                  · go_simp
                    have q335 := q332.alloc (.cells #[.string x.f, .int .i64 x.n, .string x.b] 33)
                    have hsl1 := sl_oneM V332 x
                    clear b0 b1 b2 f0 f1 f2
                    obtain ⟨b0, b1, b2, f0, f1, f2⟩ := id q335.x
                    refine hK.out _ _ trivial (fun _ => ?_)
                    clear hK K
                    simp only [List.setIfInBounds_toArray, List.set_cons_zero, List.set_cons_succ]
                    obtain ⟨pv, hpv⟩ : ∃ pv, pv = V332.heap.size := ⟨_, rfl⟩
                    rw [← hpv] at hsl1 ⊢
                    clear q332 hpv
                    generalize V332.alloc (.cells #[.string x.f, .int .i64 x.n, .string x.b] 33) = V335 at q335 hsl1 b0 b1 b2 f0 f1 f2 ⊢
                    refine wpAnyH_ready (rs := [1]) (by kernel_rfl) (by simp) ?_
                    refine AllReadyH.consL rfl (fun K hK => ?_) AllReadyH.nil
                    go_simp
                    refine hK.out _ _ trivial (fun _ => ?_)
                    clear hK K
                    simp only [List.setIfInBounds_toArray, List.set_cons_zero, List.set_cons_succ]
                    refine wpAnyH_ready (rs := [5]) (by kernel_rfl) (by simp) ?_
                    refine AllReadyH.consL rfl (fun K hK => ?_) AllReadyH.nil
                    rw [if_pos (by rfl)]
                    refine wp_append_all V335 (.tmp 64) (.tmp 67) _ rfl i0 _ _ Tryz.underlying24 hi0 hv0 hv1 hv2 rfl (by omega) Msg.len Msg.one q335.o.o1 hsl1 rfl rfl (by simp only [List.length_cons, List.length_nil]; unfold maxLen; omega) (by simp only [List.length_cons, List.length_nil]; omega) q335.size ?_
                    intro A' c' U hO2 hb2 hbut hdis
                    have hI2 := q335.o.push1 hO2 hbut hdis
                    obtain ⟨L2, hL2⟩ : ∃ L2, Hid (L2 = s ++ [x]) := ⟨_, Lib.hid rfl⟩
                    have hln : L2.length ≤ s.length + 1 := by rw [hL2.out]; simp
                    have hs2 : sm L2 := by rw [hL2.out]; exact hs.app (sm.one hx)
                    rw [← hL2.out] at hI2 hO2 ⊢
                    obtain ⟨b0, b1, b2, f0, f1, f2⟩ := q335.x.upto (B := w.heap.size + 2) (Nat.lt_succ_self _) hb2
                    have q9 := q335.app0 hpb hb2 hI2
                    clear hb2 hbut hdis hI2 hO2 hL2 q335 hsl1
                    refine hK.out _ _ trivial (fun _ => ?_)
                    clear hK K
                    simp only [Act.put, List.setIfInBounds_toArray, List.set_cons_zero, List.set_cons_succ]
                    refine wpAnyH_takeL (i := 6) (v := .pointer (some ⟨w.heap.size + 1, 0, none⟩)) rfl (by kernel_rfl) (by kernel_rfl) (by kernel_rfl) (fun _ _ _ h => h) (Or.inl ⟨by rfl, fun w' hSw => by go_simp⟩) trivial ?_
                    simp only [Act.put, List.setIfInBounds_toArray, List.set_cons_zero, List.set_cons_succ]
                    refine wpAnyH_ready (rs := [7]) (by kernel_rfl) (by simp) ?_
                    refine AllReadyH.consL rfl (fun K hK => ?_) AllReadyH.nil
                    go_simp
                    clear b0 b1 b2 f0 f1 f2
                    refine hK.out _ _ trivial (fun _ => ?_)
                    clear hK K
                    simp only [List.setIfInBounds_toArray, List.set_cons_zero, List.set_cons_succ]
                    refine wpAnyH_done (by kernel_rfl) ?_ _
                    generalize U.setCell ⟨w.heap.size + 1, 0, none⟩ (.slice A' L2.length c') = U2 at q9 ⊢
                    obtain ⟨b0, b1, b2, f0, f1, f2⟩ := id q9.x
                    have r0 := (q9.z 0 _ rfl).1
                    have r1 := (q9.z 1 _ rfl).1
                    have r2 := (q9.z 2 _ rfl).1
                    have g0 := (q9.z 0 _ rfl).2
                    have g1 := (q9.z 1 _ rfl).2
                    have g2 := (q9.z 2 _ rfl).2
                    obtain ⟨hRR, hOO, hCC, hFF⟩ := q9.fin hpb
                    have z0 := (hRR 0 _ rfl).1
                    have z1 := (hRR 1 _ rfl).1
                    have z2 := (hRR 2 _ rfl).1
                    clear q9 hRR
                    go_wp2
                    refine bodyPost_ret (by simp [results, Tryz.results61, go_sem, z0, z1, z2]; try rfl) rfl ?_
                    exact ⟨A', c', L2, A2, c2, r, A3, c3, h, rfl, ⟨by omega, by omega, by omega⟩, ⟨hs2, hr, hh⟩, hOO, hCC.more (by omega), hFF⟩
            have q00 : ((m : Int) == 0) = false := by simp; omega
            clear e0
            by_cases e1 : m = 1
            · have q01 : ((m : Int) == 1) = true := by simp [e1]
              clear e1
              go_upto_region 21 with fail
              as_aux_lemma =>
                refine wp_region_held_drew (S := fun _ => True) (by kernel_rfl) trivial (fun hHeld => ?_)
                have q437 := q.drew
                clear q hHeld
                generalize w4.drew = V437 at q437 ⊢
                obtain ⟨b0, b1, b2, f0, f1, f2⟩ := id q437.x
                change wpAnyH _ _ _ _ _ 8 #[false, false, false, false, false, false, false, false] _ _
                refine wpAnyH_takeL (i := 0) (v := .pointer (some ⟨w.heap.size + 1, 1, none⟩)) rfl (by kernel_rfl) (by kernel_rfl) (by kernel_rfl) (fun _ _ _ h => h) (Or.inl ⟨by rfl, fun w' hSw => by go_simp⟩) trivial ?_
                simp only [Act.put, List.setIfInBounds_toArray, List.set_cons_zero, List.set_cons_succ]
                refine wpAnyH_takeL (i := 2) (v := .pointer (some ⟨pb, 0, none⟩)) rfl (by kernel_rfl) (by kernel_rfl) (by kernel_rfl) (fun _ _ _ h => h) (Or.inl ⟨by rfl, fun w' hSw => by go_simp⟩) trivial ?_
                simp only [Act.put, List.setIfInBounds_toArray, List.set_cons_zero, List.set_cons_succ]
                refine wpAnyH_ready (rs := [1, 3]) (by kernel_rfl) (by simp) ?_
                refine AllReadyH.consL rfl (fun K hK => ?_) (AllReadyH.consL rfl (fun K hK => ?_) AllReadyH.nil)
                · go_simp
                  refine hK.out _ _ trivial (fun _ => ?_)
                  clear hK K
                  simp only [List.setIfInBounds_toArray, List.set_cons_zero, List.set_cons_succ]
                  refine wpAnyH_ready (rs := [3]) (by kernel_rfl) (by simp) ?_
                  refine AllReadyH.consL rfl (fun K hK => ?_) AllReadyH.nil
                  go_simp
                  refine (message_any pb A c l (N + 530) _ q437.cur (by omega)).mono ?_
                  rintro e V438 ⟨x, hx, rfl, hC, hFn⟩
                  have q438 := q437.step hpb hFn hC
                  clear hC hFn b0 b1 b2 f0 f1 f2 q437
                  obtain ⟨b0, b1, b2, f0, f1, f2⟩ := id q438.x
                  go_simp
                  refine hK.out _ _ trivial (fun _ => ?_)
                  clear hK K
                  simp only [List.setIfInBounds_toArray, List.set_cons_zero, List.set_cons_succ]
                  refine wpAnyH_ready (rs := [4]) (by kernel_rfl) (by simp) ?_
                  refine AllReadyH.consL rfl (fun K hK => ?_) AllReadyH.nil
                  go_simp
                  have q439 := q438.alloc (.cells #[.string x.f, .int .i64 x.n, .string x.b] 33)
                  have hsl1 := sl_oneM V438 x
                  clear b0 b1 b2 f0 f1 f2
                  obtain ⟨b0, b1, b2, f0, f1, f2⟩ := id q439.x
                  refine hK.out _ _ trivial (fun _ => ?_)
                  clear hK K
                  simp only [List.setIfInBounds_toArray, List.set_cons_zero, List.set_cons_succ]
                  obtain ⟨pv, hpv⟩ : ∃ pv, pv = V438.heap.size := ⟨_, rfl⟩
                  rw [← hpv] at hsl1 ⊢
                  clear q438 hpv
                  generalize V438.alloc (.cells #[.string x.f, .int .i64 x.n, .string x.b] 33) = V439 at q439 hsl1 b0 b1 b2 f0 f1 f2 ⊢
                  refine wpAnyH_ready (rs := [5]) (by kernel_rfl) (by simp) ?_
                  refine AllReadyH.consL rfl (fun K hK => ?_) AllReadyH.nil
                  rw [if_pos (by rfl)]
                  refine wp_append_all V439 (.tmp 73) (.tmp 76) _ rfl i0 _ _ Tryz.underlying24 hi0 hv0 hv1 hv2 rfl (by omega) Msg.len Msg.one q439.o.o2 hsl1 rfl rfl (by simp only [List.length_cons, List.length_nil]; unfold maxLen; omega) (by simp only [List.length_cons, List.length_nil]; omega) q439.size ?_
                  intro A' c' U hO2 hb2 hbut hdis
                  have hI2 := q439.o.push2 hO2 hbut hdis
                  obtain ⟨L2, hL2⟩ : ∃ L2, Hid (L2 = r ++ [x]) := ⟨_, Lib.hid rfl⟩
                  have hln : L2.length ≤ r.length + 1 := by rw [hL2.out]; simp
                  have hs2 : sm L2 := by rw [hL2.out]; exact hr.app (sm.one hx)
                  rw [← hL2.out] at hI2 hO2 ⊢
                  obtain ⟨b0, b1, b2, f0, f1, f2⟩ := q439.x.upto (B := w.heap.size + 2) (Nat.lt_succ_self _) hb2
                  have q9 := q439.app1 hpb hb2 hI2
                  clear hb2 hbut hdis hI2 hO2 hL2 q439 hsl1
                  refine hK.out _ _ trivial (fun _ => ?_)
                  clear hK K
                  simp only [Act.put, List.setIfInBounds_toArray, List.set_cons_zero, List.set_cons_succ]
                  refine wpAnyH_takeL (i := 6) (v := .pointer (some ⟨w.heap.size + 1, 1, none⟩)) rfl (by kernel_rfl) (by kernel_rfl) (by kernel_rfl) (fun _ _ _ h => h) (Or.inl ⟨by rfl, fun w' hSw => by go_simp⟩) trivial ?_
                  simp only [Act.put, List.setIfInBounds_toArray, List.set_cons_zero, List.set_cons_succ]
                  refine wpAnyH_ready (rs := [7]) (by kernel_rfl) (by simp) ?_
                  refine AllReadyH.consL rfl (fun K hK => ?_) AllReadyH.nil
                  go_simp
                  clear b0 b1 b2 f0 f1 f2
                  refine hK.out _ _ trivial (fun _ => ?_)
                  clear hK K
                  simp only [List.setIfInBounds_toArray, List.set_cons_zero, List.set_cons_succ]
                  refine wpAnyH_done (by kernel_rfl) ?_ _
                  generalize U.setCell ⟨w.heap.size + 1, 1, none⟩ (.slice A' L2.length c') = U2 at q9 ⊢
                  obtain ⟨b0, b1, b2, f0, f1, f2⟩ := id q9.x
                  have r0 := (q9.z 0 _ rfl).1
                  have r1 := (q9.z 1 _ rfl).1
                  have r2 := (q9.z 2 _ rfl).1
                  have g0 := (q9.z 0 _ rfl).2
                  have g1 := (q9.z 1 _ rfl).2
                  have g2 := (q9.z 2 _ rfl).2
                  obtain ⟨hRR, hOO, hCC, hFF⟩ := q9.fin hpb
                  have z0 := (hRR 0 _ rfl).1
                  have z1 := (hRR 1 _ rfl).1
                  have z2 := (hRR 2 _ rfl).1
                  clear q9 hRR
                  go_wp2
                  refine bodyPost_ret (by simp [results, Tryz.results61, go_sem, z0, z1, z2]; try rfl) rfl ?_
                  exact ⟨A1, c1, s, A', c', L2, A3, c3, h, rfl, ⟨by omega, by omega, by omega⟩, ⟨hs, hs2, hh⟩, hOO, hCC.more (by omega), hFF⟩
                · go_simp
                  refine (message_any pb A c l (N + 530) _ q437.cur (by omega)).mono ?_
                  rintro e V441 ⟨x, hx, rfl, hC, hFn⟩
                  have q441 := q437.step hpb hFn hC
                  clear hC hFn b0 b1 b2 f0 f1 f2 q437
                  obtain ⟨b0, b1, b2, f0, f1, f2⟩ := id q441.x
                  go_simp
                  refine hK.out _ _ trivial (fun _ => ?_)
                  clear hK K
                  simp only [List.setIfInBounds_toArray, List.set_cons_zero, List.set_cons_succ]
                  refine wpAnyH_ready (rs := [1, 4]) (by kernel_rfl) (by simp) ?_
                  refine AllReadyH.consL rfl (fun K hK => ?_) (AllReadyH.consL rfl (fun K hK => ?_) AllReadyH.nil)
                  · go_simp
                    refine hK.out _ _ trivial (fun _ => ?_)
                    clear hK K
                    simp only [List.setIfInBounds_toArray, List.set_cons_zero, List.set_cons_succ]
                    refine wpAnyH_ready (rs := [4]) (by kernel_rfl) (by simp) ?_
                    refine AllReadyH.consL rfl (fun K hK => ?_) AllReadyH.nil
                    go_simp
                    have q442 := q441.alloc (.cells #[.string x.f, .int .i64 x.n, .string x.b] 33)
                    have hsl1 := sl_oneM V441 x
                    clear b0 b1 b2 f0 f1 f2
                    obtain ⟨b0, b1, b2, f0, f1, f2⟩ := id q442.x
                    refine hK.out _ _ trivial (fun _ => ?_)
                    clear hK K
                    simp only [List.setIfInBounds_toArray, List.set_cons_zero, List.set_cons_succ]
                    obtain ⟨pv, hpv⟩ : ∃ pv, pv = V441.heap.size := ⟨_, rfl⟩
                    rw [← hpv] at hsl1 ⊢
                    clear q441 hpv
                    generalize V441.alloc (.cells #[.string x.f, .int .i64 x.n, .string x.b] 33) = V442 at q442 hsl1 b0 b1 b2 f0 f1 f2 ⊢
                    refine wpAnyH_ready (rs := [5]) (by kernel_rfl) (by simp) ?_
                    refine AllReadyH.consL rfl (fun K hK => ?_) AllReadyH.nil
                    rw [if_pos (by rfl)]
                    refine wp_append_all V442 (.tmp 73) (.tmp 76) _ rfl i0 _ _ Tryz.underlying24 hi0 hv0 hv1 hv2 rfl (by omega) Msg.len Msg.one q442.o.o2 hsl1 rfl rfl (by simp only [List.length_cons, List.length_nil]; unfold maxLen; omega) (by simp only [List.length_cons, List.length_nil]; omega) q442.size ?_
                    intro A' c' U hO2 hb2 hbut hdis
                    have hI2 := q442.o.push2 hO2 hbut hdis
                    obtain ⟨L2, hL2⟩ : ∃ L2, Hid (L2 = r ++ [x]) := ⟨_, Lib.hid rfl⟩
                    have hln : L2.length ≤ r.length + 1 := by rw [hL2.out]; simp
                    have hs2 : sm L2 := by rw [hL2.out]; exact hr.app (sm.one hx)
                    rw [← hL2.out] at hI2 hO2 ⊢
                    obtain ⟨b0, b1, b2, f0, f1, f2⟩ := q442.x.upto (B := w.heap.size + 2) (Nat.lt_succ_self _) hb2
                    have q9 := q442.app1 hpb hb2 hI2
                    clear hb2 hbut hdis hI2 hO2 hL2 q442 hsl1
                    refine hK.out _ _ trivial (fun _ => ?_)
                    clear hK K
                    simp only [Act.put, List.setIfInBounds_toArray, List.set_cons_zero, List.set_cons_succ]
                    refine wpAnyH_takeL (i := 6) (v := .pointer (some ⟨w.heap.size + 1, 1, none⟩)) rfl (by kernel_rfl) (by kernel_rfl) (by kernel_rfl) (fun _ _ _ h => h) (Or.inl ⟨by rfl, fun w' hSw => by go_simp⟩) trivial ?_
                    simp only [Act.put, List.setIfInBounds_toArray, List.set_cons_zero, List.set_cons_succ]
                    refine wpAnyH_ready (rs := [7]) (by kernel_rfl) (by simp) ?_
                    refine AllReadyH.consL rfl (fun K hK => ?_) AllReadyH.nil
                    go_simp
                    clear b0 b1 b2 f0 f1 f2
                    refine hK.out _ _ trivial (fun _ => ?_)
                    clear hK K
                    simp only [List.setIfInBounds_toArray, List.set_cons_zero, List.set_cons_succ]
                    refine wpAnyH_done (by kernel_rfl) ?_ _
                    generalize U.setCell ⟨w.heap.size + 1, 1, none⟩ (.slice A' L2.length c') = U2 at q9 ⊢
                    obtain ⟨b0, b1, b2, f0, f1, f2⟩ := id q9.x
                    have r0 := (q9.z 0 _ rfl).1
                    have r1 := (q9.z 1 _ rfl).1
                    have r2 := (q9.z 2 _ rfl).1
                    have g0 := (q9.z 0 _ rfl).2
                    have g1 := (q9.z 1 _ rfl).2
                    have g2 := (q9.z 2 _ rfl).2
                    obtain ⟨hRR, hOO, hCC, hFF⟩ := q9.fin hpb
                    have z0 := (hRR 0 _ rfl).1
                    have z1 := (hRR 1 _ rfl).1
                    have z2 := (hRR 2 _ rfl).1
                    clear q9 hRR
                    go_wp2
                    refine bodyPost_ret (by simp [results, Tryz.results61, go_sem, z0, z1, z2]; try rfl) rfl ?_
                    exact ⟨A1, c1, s, A', c', L2, A3, c3, h, rfl, ⟨by omega, by omega, by omega⟩, ⟨hs, hs2, hh⟩, hOO, hCC.more (by omega), hFF⟩
                  · go_simp
                    have q444 := q441.alloc (.cells #[.string x.f, .int .i64 x.n, .string x.b] 33)
                    have hsl1 := sl_oneM V441 x
                    clear b0 b1 b2 f0 f1 f2
                    obtain ⟨b0, b1, b2, f0, f1, f2⟩ := id q444.x
                    refine hK.out _ _ trivial (fun _ => ?_)
                    clear hK K
                    simp only [List.setIfInBounds_toArray, List.set_cons_zero, List.set_cons_succ]
                    obtain ⟨pv, hpv⟩ : ∃ pv, pv = V441.heap.size := ⟨_, rfl⟩
                    rw [← hpv] at hsl1 ⊢
                    clear q441 hpv
                    generalize V441.alloc (.cells #[.string x.f, .int .i64 x.n, .string x.b] 33) = V444 at q444 hsl1 b0 b1 b2 f0 f1 f2 ⊢
                    refine wpAnyH_ready (rs := [1]) (by kernel_rfl) (by simp) ?_
                    refine AllReadyH.consL rfl (fun K hK => ?_) AllReadyH.nil
                    go_simp
                    refine hK.out _ _ trivial (fun _ => ?_)
                    clear hK K
                    simp only [List.setIfInBounds_toArray, List.set_cons_zero, List.set_cons_succ]
                    refine wpAnyH_ready (rs := [5]) (by kernel_rfl) (by simp) ?_
                    refine AllReadyH.consL rfl (fun K hK => ?_) AllReadyH.nil
                    rw [if_pos (by rfl)]
                    refine wp_append_all V444 (.tmp 73) (.tmp 76) _ rfl i0 _ _ Tryz.underlying24 hi0 hv0 hv1 hv2 rfl (by omega) Msg.len Msg.one q444.o.o2 hsl1 rfl rfl (by simp only [List.length_cons, List.length_nil]; unfold maxLen; omega) (by simp only [List.length_cons, List.length_nil]; omega) q444.size ?_
                    intro A' c' U hO2 hb2 hbut hdis
                    have hI2 := q444.o.push2 hO2 hbut hdis
                    obtain ⟨L2, hL2⟩ : ∃ L2, Hid (L2 = r ++ [x]) := ⟨_, Lib.hid rfl⟩
                    have hln : L2.length ≤ r.length + 1 := by rw [hL2.out]; simp
                    have hs2 : sm L2 := by rw [hL2.out]; exact hr.app (sm.one hx)
                    rw [← hL2.out] at hI2 hO2 ⊢
                    obtain ⟨b0, b1, b2, f0, f1, f2⟩ := q444.x.upto (B := w.heap.size + 2) (Nat.lt_succ_self _) hb2
                    have q9 := q444.app1 hpb hb2 hI2
                    clear hb2 hbut hdis hI2 hO2 hL2 q444 hsl1
                    refine hK.out _ _ trivial (fun _ => ?_)
                    clear hK K
                    simp only [Act.put, List.setIfInBounds_toArray, List.set_cons_zero, List.set_cons_succ]
                    refine wpAnyH_takeL (i := 6) (v := .pointer (some ⟨w.heap.size + 1, 1, none⟩)) rfl (by kernel_rfl) (by kernel_rfl) (by kernel_rfl) (fun _ _ _ h => h) (Or.inl ⟨by rfl, fun w' hSw => by go_simp⟩) trivial ?_
                    simp only [Act.put, List.setIfInBounds_toArray, List.set_cons_zero, List.set_cons_succ]
                    refine wpAnyH_ready (rs := [7]) (by kernel_rfl) (by simp) ?_
                    refine AllReadyH.consL rfl (fun K hK => ?_) AllReadyH.nil
                    go_simp
                    clear b0 b1 b2 f0 f1 f2
                    refine hK.out _ _ trivial (fun _ => ?_)
                    clear hK K
                    simp only [List.setIfInBounds_toArray, List.set_cons_zero, List.set_cons_succ]
                    refine wpAnyH_done (by kernel_rfl) ?_ _
                    generalize U.setCell ⟨w.heap.size + 1, 1, none⟩ (.slice A' L2.length c') = U2 at q9 ⊢
                    obtain ⟨b0, b1, b2, f0, f1, f2⟩ := id q9.x
                    have r0 := (q9.z 0 _ rfl).1
                    have r1 := (q9.z 1 _ rfl).1
                    have r2 := (q9.z 2 _ rfl).1
                    have g0 := (q9.z 0 _ rfl).2
                    have g1 := (q9.z 1 _ rfl).2
                    have g2 := (q9.z 2 _ rfl).2
                    obtain ⟨hRR, hOO, hCC, hFF⟩ := q9.fin hpb
                    have z0 := (hRR 0 _ rfl).1
                    have z1 := (hRR 1 _ rfl).1
                    have z2 := (hRR 2 _ rfl).1
                    clear q9 hRR
                    go_wp2
                    refine bodyPost_ret (by simp [results, Tryz.results61, go_sem, z0, z1, z2]; try rfl) rfl ?_
                    exact ⟨A1, c1, s, A', c', L2, A3, c3, h, rfl, ⟨by omega, by omega, by omega⟩, ⟨hs, hs2, hh⟩, hOO, hCC.more (by omega), hFF⟩
            have q01 : ((m : Int) == 1) = false := by simp; omega
            clear e1
            by_cases e2 : m = 2
            · have q02 : ((m : Int) == 2) = true := by simp [e2]
              clear e2
              go_upto_region 23 with fail
              as_aux_lemma =>
                refine wp_region_held_drew (S := fun _ => True) (by kernel_rfl) trivial (fun hHeld => ?_)
                have q546 := q.drew
                clear q hHeld
                generalize w4.drew = V546 at q546 ⊢
                obtain ⟨b0, b1, b2, f0, f1, f2⟩ := id q546.x
                change wpAnyH _ _ _ _ _ 8 #[false, false, false, false, false, false, false, false] _ _
                refine wpAnyH_takeL (i := 0) (v := .pointer (some ⟨w.heap.size + 1, 2, none⟩)) rfl (by kernel_rfl) (by kernel_rfl) (by kernel_rfl) (fun _ _ _ h => h) (Or.inl ⟨by rfl, fun w' hSw => by go_simp⟩) trivial ?_
                simp only [Act.put, List.setIfInBounds_toArray, List.set_cons_zero, List.set_cons_succ]
                refine wpAnyH_takeL (i := 2) (v := .pointer (some ⟨pb, 0, none⟩)) rfl (by kernel_rfl) (by kernel_rfl) (by kernel_rfl) (fun _ _ _ h => h) (Or.inl ⟨by rfl, fun w' hSw => by go_simp⟩) trivial ?_
                simp only [Act.put, List.setIfInBounds_toArray, List.set_cons_zero, List.set_cons_succ]
                refine wpAnyH_ready (rs := [1, 3]) (by kernel_rfl) (by simp) ?_
                refine AllReadyH.consL rfl (fun K hK => ?_) (AllReadyH.consL rfl (fun K hK => ?_) AllReadyH.nil)
                · go_simp
                  refine hK.out _ _ trivial (fun _ => ?_)
                  clear hK K
                  simp only [List.setIfInBounds_toArray, List.set_cons_zero, List.set_cons_succ]
                  refine wpAnyH_ready (rs := [3]) (by kernel_rfl) (by simp) ?_
                  refine AllReadyH.consL rfl (fun K hK => ?_) AllReadyH.nil
                  go_simp
                  refine (message_any pb A c l (N + 530) _ q546.cur (by omega)).mono ?_
                  rintro e V547 ⟨x, hx, rfl, hC, hFn⟩
                  have q547 := q546.step hpb hFn hC
                  clear hC hFn b0 b1 b2 f0 f1 f2 q546
                  obtain ⟨b0, b1, b2, f0, f1, f2⟩ := id q547.x
                  go_simp
                  refine hK.out _ _ trivial (fun _ => ?_)
                  clear hK K
                  simp only [List.setIfInBounds_toArray, List.set_cons_zero, List.set_cons_succ]
                  refine wpAnyH_ready (rs := [4]) (by kernel_rfl) (by simp) ?_
                  refine AllReadyH.consL rfl (fun K hK => ?_) AllReadyH.nil
                  go_simp
                  have q548 := q547.alloc (.cells #[.string x.f, .int .i64 x.n, .string x.b] 33)
                  have hsl1 := sl_oneM V547 x
                  clear b0 b1 b2 f0 f1 f2
                  obtain ⟨b0, b1, b2, f0, f1, f2⟩ := id q548.x
                  refine hK.out _ _ trivial (fun _ => ?_)
                  clear hK K
                  simp only [List.setIfInBounds_toArray, List.set_cons_zero, List.set_cons_succ]
                  obtain ⟨pv, hpv⟩ : ∃ pv, pv = V547.heap.size := ⟨_, rfl⟩
                  rw [← hpv] at hsl1 ⊢
                  clear q547 hpv
                  generalize V547.alloc (.cells #[.string x.f, .int .i64 x.n, .string x.b] 33) = V548 at q548 hsl1 b0 b1 b2 f0 f1 f2 ⊢
                  refine wpAnyH_ready (rs := [5]) (by kernel_rfl) (by simp) ?_
                  refine AllReadyH.consL rfl (fun K hK => ?_) AllReadyH.nil
                  rw [if_pos (by rfl)]
                  refine wp_append_all V548 (.tmp 82) (.tmp 85) _ rfl i0 _ _ Tryz.underlying24 hi0 hv0 hv1 hv2 rfl (by omega) Msg.len Msg.one q548.o.o3 hsl1 rfl rfl (by simp only [List.length_cons, List.length_nil]; unfold maxLen; omega) (by simp only [List.length_cons, List.length_nil]; omega) q548.size ?_
                  intro A' c' U hO2 hb2 hbut hdis
                  have hI2 := q548.o.push3 hO2 hbut hdis
                  obtain ⟨L2, hL2⟩ : ∃ L2, Hid (L2 = h ++ [x]) := ⟨_, Lib.hid rfl⟩
                  have hln : L2.length ≤ h.length + 1 := by rw [hL2.out]; simp
                  have hs2 : sm L2 := by rw [hL2.out]; exact hh.app (sm.one hx)
                  rw [← hL2.out] at hI2 hO2 ⊢
                  obtain ⟨b0, b1, b2, f0, f1, f2⟩ := q548.x.upto (B := w.heap.size + 2) (Nat.lt_succ_self _) hb2
                  have q9 := q548.app2 hpb hb2 hI2
                  clear hb2 hbut hdis hI2 hO2 hL2 q548 hsl1
                  refine hK.out _ _ trivial (fun _ => ?_)
                  clear hK K
                  simp only [Act.put, List.setIfInBounds_toArray, List.set_cons_zero, List.set_cons_succ]
                  refine wpAnyH_takeL (i := 6) (v := .pointer (some ⟨w.heap.size + 1, 2, none⟩)) rfl (by kernel_rfl) (by kernel_rfl) (by kernel_rfl) (fun _ _ _ h => h) (Or.inl ⟨by rfl, fun w' hSw => by go_simp⟩) trivial ?_
                  simp only [Act.put, List.setIfInBounds_toArray, List.set_cons_zero, List.set_cons_succ]
                  refine wpAnyH_ready (rs := [7]) (by kernel_rfl) (by simp) ?_
                  refine AllReadyH.consL rfl (fun K hK => ?_) AllReadyH.nil
                  go_simp
                  clear b0 b1 b2 f0 f1 f2
                  refine hK.out _ _ trivial (fun _ => ?_)
                  clear hK K
                  simp only [List.setIfInBounds_toArray, List.set_cons_zero, List.set_cons_succ]
                  refine wpAnyH_done (by kernel_rfl) ?_ _
                  generalize U.setCell ⟨w.heap.size + 1, 2, none⟩ (.slice A' L2.length c') = U2 at q9 ⊢
                  obtain ⟨b0, b1, b2, f0, f1, f2⟩ := id q9.x
                  have r0 := (q9.z 0 _ rfl).1
                  have r1 := (q9.z 1 _ rfl).1
                  have r2 := (q9.z 2 _ rfl).1
                  have g0 := (q9.z 0 _ rfl).2
                  have g1 := (q9.z 1 _ rfl).2
                  have g2 := (q9.z 2 _ rfl).2
                  obtain ⟨hRR, hOO, hCC, hFF⟩ := q9.fin hpb
                  have z0 := (hRR 0 _ rfl).1
                  have z1 := (hRR 1 _ rfl).1
                  have z2 := (hRR 2 _ rfl).1
                  clear q9 hRR
                  go_wp2
                  refine bodyPost_ret (by simp [results, Tryz.results61, go_sem, z0, z1, z2]; try rfl) rfl ?_
                  exact ⟨A1, c1, s, A2, c2, r, A', c', L2, rfl, ⟨by omega, by omega, by omega⟩, ⟨hs, hr, hs2⟩, hOO, hCC.more (by omega), hFF⟩
                · go_simp
                  refine (message_any pb A c l (N + 530) _ q546.cur (by omega)).mono ?_
                  rintro e V550 ⟨x, hx, rfl, hC, hFn⟩
                  have q550 := q546.step hpb hFn hC
                  clear hC hFn b0 b1 b2 f0 f1 f2 q546
                  obtain ⟨b0, b1, b2, f0, f1, f2⟩ := id q550.x
                  go_simp
                  refine hK.out _ _ trivial (fun _ => ?_)
                  clear hK K
                  simp only [List.setIfInBounds_toArray, List.set_cons_zero, List.set_cons_succ]
                  refine wpAnyH_ready (rs := [1, 4]) (by kernel_rfl) (by simp) ?_
                  refine AllReadyH.consL rfl (fun K hK => ?_) (AllReadyH.consL rfl (fun K hK => ?_) AllReadyH.nil)
                  · go_simp
                    refine hK.out _ _ trivial (fun _ => ?_)
                    clear hK K
                    simp only [List.setIfInBounds_toArray, List.set_cons_zero, List.set_cons_succ]
                    refine wpAnyH_ready (rs := [4]) (by kernel_rfl) (by simp) ?_
                    refine AllReadyH.consL rfl (fun K hK => ?_) AllReadyH.nil
                    go_simp
                    have q551 := q550.alloc (.cells #[.string x.f, .int .i64 x.n, .string x.b] 33)
                    have hsl1 := sl_oneM V550 x
                    clear b0 b1 b2 f0 f1 f2
                    obtain ⟨b0, b1, b2, f0, f1, f2⟩ := id q551.x
                    refine hK.out _ _ trivial (fun _ => ?_)
                    clear hK K
                    simp only [List.setIfInBounds_toArray, List.set_cons_zero, List.set_cons_succ]
                    obtain ⟨pv, hpv⟩ : ∃ pv, pv = V550.heap.size := ⟨_, rfl⟩
                    rw [← hpv] at hsl1 ⊢
                    clear q550 hpv
                    generalize V550.alloc (.cells #[.string x.f, .int .i64 x.n, .string x.b] 33) = V551 at q551 hsl1 b0 b1 b2 f0 f1 f2 ⊢
                    refine wpAnyH_ready (rs := [5]) (by kernel_rfl) (by simp) ?_
                    refine AllReadyH.consL rfl (fun K hK => ?_) AllReadyH.nil
                    rw [if_pos (by rfl)]
                    refine wp_append_all V551 (.tmp 82) (.tmp 85) _ rfl i0 _ _ Tryz.underlying24 hi0 hv0 hv1 hv2 rfl (by omega) Msg.len Msg.one q551.o.o3 hsl1 rfl rfl (by simp only [List.length_cons, List.length_nil]; unfold maxLen; omega) (by simp only [List.length_cons, List.length_nil]; omega) q551.size ?_
                    intro A' c' U hO2 hb2 hbut hdis
                    have hI2 := q551.o.push3 hO2 hbut hdis
                    obtain ⟨L2, hL2⟩ : ∃ L2, Hid (L2 = h ++ [x]) := ⟨_, Lib.hid rfl⟩
                    have hln : L2.length ≤ h.length + 1 := by rw [hL2.out]; simp
                    have hs2 : sm L2 := by rw [hL2.out]; exact hh.app (sm.one hx)
                    rw [← hL2.out] at hI2 hO2 ⊢
                    obtain ⟨b0, b1, b2, f0, f1, f2⟩ := q551.x.upto (B := w.heap.size + 2) (Nat.lt_succ_self _) hb2
                    have q9 := q551.app2 hpb hb2 hI2
                    clear hb2 hbut hdis hI2 hO2 hL2 q551 hsl1
                    refine hK.out _ _ trivial (fun _ => ?_)
                    clear hK K
                    simp only [Act.put, List.setIfInBounds_toArray, List.set_cons_zero, List.set_cons_succ]
                    refine wpAnyH_takeL (i := 6) (v := .pointer (some ⟨w.heap.size + 1, 2, none⟩)) rfl (by kernel_rfl) (by kernel_rfl) (by kernel_rfl) (fun _ _ _ h => h) (Or.inl ⟨by rfl, fun w' hSw => by go_simp⟩) trivial ?_
                    simp only [Act.put, List.setIfInBounds_toArray, List.set_cons_zero, List.set_cons_succ]
                    refine wpAnyH_ready (rs := [7]) (by kernel_rfl) (by simp) ?_
                    refine AllReadyH.consL rfl (fun K hK => ?_) AllReadyH.nil
                    go_simp
                    clear b0 b1 b2 f0 f1 f2
                    refine hK.out _ _ trivial (fun _ => ?_)
                    clear hK K
                    simp only [List.setIfInBounds_toArray, List.set_cons_zero, List.set_cons_succ]
                    refine wpAnyH_done (by kernel_rfl) ?_ _
                    generalize U.setCell ⟨w.heap.size + 1, 2, none⟩ (.slice A' L2.length c') = U2 at q9 ⊢
                    obtain ⟨b0, b1, b2, f0, f1, f2⟩ := id q9.x
                    have r0 := (q9.z 0 _ rfl).1
                    have r1 := (q9.z 1 _ rfl).1
                    have r2 := (q9.z 2 _ rfl).1
                    have g0 := (q9.z 0 _ rfl).2
                    have g1 := (q9.z 1 _ rfl).2
                    have g2 := (q9.z 2 _ rfl).2
                    obtain ⟨hRR, hOO, hCC, hFF⟩ := q9.fin hpb
                    have z0 := (hRR 0 _ rfl).1
                    have z1 := (hRR 1 _ rfl).1
                    have z2 := (hRR 2 _ rfl).1
                    clear q9 hRR
                    go_wp2
                    refine bodyPost_ret (by simp [results, Tryz.results61, go_sem, z0, z1, z2]; try rfl) rfl ?_
                    exact ⟨A1, c1, s, A2, c2, r, A', c', L2, rfl, ⟨by omega, by omega, by omega⟩, ⟨hs, hr, hs2⟩, hOO, hCC.more (by omega), hFF⟩
                  · go_simp
                    have q553 := q550.alloc (.cells #[.string x.f, .int .i64 x.n, .string x.b] 33)
                    have hsl1 := sl_oneM V550 x
                    clear b0 b1 b2 f0 f1 f2
                    obtain ⟨b0, b1, b2, f0, f1, f2⟩ := id q553.x
                    refine hK.out _ _ trivial (fun _ => ?_)
                    clear hK K
                    simp only [List.setIfInBounds_toArray, List.set_cons_zero, List.set_cons_succ]
                    obtain ⟨pv, hpv⟩ : ∃ pv, pv = V550.heap.size := ⟨_, rfl⟩
                    rw [← hpv] at hsl1 ⊢
                    clear q550 hpv
                    generalize V550.alloc (.cells #[.string x.f, .int .i64 x.n, .string x.b] 33) = V553 at q553 hsl1 b0 b1 b2 f0 f1 f2 ⊢
                    refine wpAnyH_ready (rs := [1]) (by kernel_rfl) (by simp) ?_
                    refine AllReadyH.consL rfl (fun K hK => ?_) AllReadyH.nil
                    go_simp
                    refine hK.out _ _ trivial (fun _ => ?_)
                    clear hK K
                    simp only [List.setIfInBounds_toArray, List.set_cons_zero, List.set_cons_succ]
                    refine wpAnyH_ready (rs := [5]) (by kernel_rfl) (by simp) ?_
                    refine AllReadyH.consL rfl (fun K hK => ?_) AllReadyH.nil
                    rw [if_pos (by rfl)]
                    refine wp_append_all V553 (.tmp 82) (.tmp 85) _ rfl i0 _ _ Tryz.underlying24 hi0 hv0 hv1 hv2 rfl (by omega) Msg.len Msg.one q553.o.o3 hsl1 rfl rfl (by simp only [List.length_cons, List.length_nil]; unfold maxLen; omega) (by simp only [List.length_cons, List.length_nil]; omega) q553.size ?_
                    intro A' c' U hO2 hb2 hbut hdis
                    have hI2 := q553.o.push3 hO2 hbut hdis
                    obtain ⟨L2, hL2⟩ : ∃ L2, Hid (L2 = h ++ [x]) := ⟨_, Lib.hid rfl⟩
                    have hln : L2.length ≤ h.length + 1 := by rw [hL2.out]; simp
                    have hs2 : sm L2 := by rw [hL2.out]; exact hh.app (sm.one hx)
                    rw [← hL2.out] at hI2 hO2 ⊢
                    obtain ⟨b0, b1, b2, f0, f1, f2⟩ := q553.x.upto (B := w.heap.size + 2) (Nat.lt_succ_self _) hb2
                    have q9 := q553.app2 hpb hb2 hI2
                    clear hb2 hbut hdis hI2 hO2 hL2 q553 hsl1
                    refine hK.out _ _ trivial (fun _ => ?_)
                    clear hK K
                    simp only [Act.put, List.setIfInBounds_toArray, List.set_cons_zero, List.set_cons_succ]
                    refine wpAnyH_takeL (i := 6) (v := .pointer (some ⟨w.heap.size + 1, 2, none⟩)) rfl (by kernel_rfl) (by kernel_rfl) (by kernel_rfl) (fun _ _ _ h => h) (Or.inl ⟨by rfl, fun w' hSw => by go_simp⟩) trivial ?_
                    simp only [Act.put, List.setIfInBounds_toArray, List.set_cons_zero, List.set_cons_succ]
                    refine wpAnyH_ready (rs := [7]) (by kernel_rfl) (by simp) ?_
                    refine AllReadyH.consL rfl (fun K hK => ?_) AllReadyH.nil
                    go_simp
                    clear b0 b1 b2 f0 f1 f2
                    refine hK.out _ _ trivial (fun _ => ?_)
                    clear hK K
                    simp only [List.setIfInBounds_toArray, List.set_cons_zero, List.set_cons_succ]
                    refine wpAnyH_done (by kernel_rfl) ?_ _
                    generalize U.setCell ⟨w.heap.size + 1, 2, none⟩ (.slice A' L2.length c') = U2 at q9 ⊢
                    obtain ⟨b0, b1, b2, f0, f1, f2⟩ := id q9.x
                    have r0 := (q9.z 0 _ rfl).1
                    have r1 := (q9.z 1 _ rfl).1
                    have r2 := (q9.z 2 _ rfl).1
                    have g0 := (q9.z 0 _ rfl).2
                    have g1 := (q9.z 1 _ rfl).2
                    have g2 := (q9.z 2 _ rfl).2
                    obtain ⟨hRR, hOO, hCC, hFF⟩ := q9.fin hpb
                    have z0 := (hRR 0 _ rfl).1
                    have z1 := (hRR 1 _ rfl).1
                    have z2 := (hRR 2 _ rfl).1
                    clear q9 hRR
                    go_wp2
                    refine bodyPost_ret (by simp [results, Tryz.results61, go_sem, z0, z1, z2]; try rfl) rfl ?_
                    exact ⟨A1, c1, s, A2, c2, r, A', c', L2, rfl, ⟨by omega, by omega, by omega⟩, ⟨hs, hr, hs2⟩, hOO, hCC.more (by omega), hFF⟩
            have q02 : ((m : Int) == 2) = false := by simp; omega
            clear e2
            by_cases e3 : m = 3
            · have q03 : ((m : Int) == 3) = true := by simp [e3]
              clear e3
              have x1 := q.x.c1
              go_upto_region 26 with (at_builtin; refine wpList_plain rfl fun K hK => ?_; refine wp_append_all w4 (.tmp 91) (.tmp 93) _ rfl i0 _ _ Tryz.underlying24 hi0 hv0 hv1 hv2 rfl (by omega) Msg.len Msg.one q.o.o2 (q.o.o2.sl Msg.len) rfl rfl (by unfold maxLen; omega) (by omega) q.size ?_; intro A' c' U hO2 hb2 hbut hdis; refine hK _ _ ?_; clear hK K; have hI2 := q.o.push2 hO2 hbut hdis; obtain ⟨L2, hL2⟩ : ∃ L2, Hid (L2 = r ++ r) := ⟨_, Lib.hid rfl⟩; rw [← hL2.out] at hI2 hO2 ⊢; obtain ⟨b0, b1, b2, f0, f1, f2⟩ := q.x.upto (B := w.heap.size + 2) (Nat.lt_succ_self _) hb2)
              have hln : L2.length ≤ 2 * r.length := by rw [hL2.out]; simp; omega
              have hs2 : sm L2 := by rw [hL2.out]; exact hr.app hr
              have q9 := q.app1 hpb hb2 hI2
              clear x1 hb2 hbut hdis hI2 hO2 hL2 b0 b1 b2 f0 f1 f2 q
              generalize U.setCell ⟨w.heap.size + 1, 1, none⟩ (.slice A' L2.length c') = U2 at q9 ⊢
              obtain ⟨b0, b1, b2, f0, f1, f2⟩ := id q9.x
              have r0 := (q9.z 0 _ rfl).1
              have r1 := (q9.z 1 _ rfl).1
              have r2 := (q9.z 2 _ rfl).1
              have g0 := (q9.z 0 _ rfl).2
              have g1 := (q9.z 1 _ rfl).2
              have g2 := (q9.z 2 _ rfl).2
              obtain ⟨hRR, hOO, hCC, hFF⟩ := q9.fin hpb
              have z0 := (hRR 0 _ rfl).1
              have z1 := (hRR 1 _ rfl).1
              have z2 := (hRR 2 _ rfl).1
              clear q9 hRR
              go_wp2
              refine bodyPost_ret (by simp [results, Tryz.results61, go_sem, z0, z1, z2]; try rfl) rfl ?_
              exact ⟨A1, c1, s, A', c', L2, A3, c3, h, rfl, ⟨by omega, by omega, by omega⟩, ⟨hs, hs2, hh⟩, hOO, hCC.more (by omega), hFF⟩
            have q03 : ((m : Int) == 3) = false := by simp; omega
            clear e3
            obtain ⟨b0, b1, b2, f0, f1, f2⟩ := id q.x
            have r0 := (q.z 0 _ rfl).1
            have r1 := (q.z 1 _ rfl).1
            have r2 := (q.z 2 _ rfl).1
            have g0 := (q.z 0 _ rfl).2
            have g1 := (q.z 1 _ rfl).2
            have g2 := (q.z 2 _ rfl).2
            obtain ⟨hRR, hOO, hCC, hFF⟩ := q.fin hpb
            have z0 := (hRR 0 _ rfl).1
            have z1 := (hRR 1 _ rfl).1
            have z2 := (hRR 2 _ rfl).1
            clear q hRR
            go_wp2
            refine bodyPost_ret (by simp [results, Tryz.results61, go_sem, z0, z1, z2]; try rfl) rfl ?_
            exact ⟨A1, c1, s, A2, c2, r, A3, c3, h, rfl, ⟨by omega, by omega, by omega⟩, ⟨hs, hr, hh⟩, hOO, hCC.more (by omega), hFF⟩
end Go.Proofs.YtjmjilkpckbpeaaGreatDoor

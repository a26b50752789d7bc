/- RoomView, the program. Conditions: at most 2^20 in each list, texts of at most 2^20; the listed variables as Said has them. -/
import Derived.Test.YtjmjilkpckbpeaaGreatDoorEndV
namespace Go.Proofs.YtjmjilkpckbpeaaGreatDoor
open Go.RowKit

set_option maxHeartbeats 4000000 in
theorem RoomView_impl (Af : Option Addr) (cf : Nat) (f : List App) (An : Option Addr) (cn : Nat) (n : List App) (As : Option Addr) (cs : Nat) (s : List Msg) (Ar : Option Addr) (cr : Nat) (r : List Msg) (Ah : Option Addr) (ch : Nat) (h : List Msg) (w : World) (hE : EA w Af cf f An cn n As cs s Ar cr r Ah ch h) (hT : Said w) :
    Calls Tryz.prog 34 #[.agg #[.slice Af f.length cf, .slice An n.length cn, .slice As s.length cs, .slice Ar r.length cr, .slice Ah h.length ch]] w (RS2 App.cells 5 w (viewT f n s r h).1 (viewT f n s r h).2) := by
  generalize hQ : viewT f n s r h = t
  replace hQ := Lib.hid hQ
  have hB : Below w.heap.size w (w.alloc (.cells #[.slice Af f.length cf, .slice An n.length cn, .slice As s.length cs, .slice Ar r.length cr, .slice Ah h.length ch] 52)) := by go_grown
  have hN := BN.new w #[.slice Af f.length cf, .slice An n.length cn, .slice As s.length cs, .slice Ar r.length cr, .slice Ah h.length ch] 52 _ rfl
  replace hE := hE.below hB
  replace hT := hT.below hB
  have b0 := (hN 0 _ rfl).1
  have b1 := (hN 1 _ rfl).1
  have b2 := (hN 2 _ rfl).1
  have b3 := (hN 3 _ rfl).1
  have b4 := (hN 4 _ rfl).1
  go_enter Tryz.func34, Tryz.ntmps34
  go_wp2_with fail
  refine (areEnds_any Af cf f An cn n As cs s Ar cr r Ah ch h _ w.heap.size hN hE.lf hE.mf hE.Sf hE.ln hE.mn hE.Sn hE.ls hE.ms hE.Ss hE.ks hE.lr hE.mr hE.Sr hE.kr hE.lh hE.mh hE.Sh hE.kh hT).mono ?_
  rintro e w1 ⟨rfl, hb⟩
  replace hN := hN.upto (hN.lt (by simp)) hb
  replace hE := hE.below hb
  replace hT := hT.below hb
  replace hB := Below.on' hB hb
  clear b0 b1 b2 b3 b4 hb
  have b0 := (hN 0 _ rfl).1
  have b1 := (hN 1 _ rfl).1
  have b2 := (hN 2 _ rfl).1
  have b3 := (hN 3 _ rfl).1
  have b4 := (hN 4 _ rfl).1
  by_cases g : endsB f n s r h = true
  rotate_left
  · have g : endsB f n s r h = false := by simpa using g
    obtain rfl : ([], false) = t := (viewT_no g).symm.trans hQ.out
    rw [g]
    go_wp2
    go_ret2
    exact RS2.nil_ rfl rfl hB
  rw [g]
  have p3 := (ends_parts g).2.2.1
  have G := ChanG.of p3
  obtain rfl := (viewT_yes g).symm.trans hQ.out
  clear hQ
  have hnr : ∀ x ∈ r, x.n ≤ 999 := fun x hx => (G.num x (G.rs x hx)).2
  have hpar : ∀ nm b, b ∈ ordF r nm → b.size ≤ 1048576 ∧ 0 ≤ stF b := fun nm b hb => by
    obtain ⟨m, hm, rfl, _⟩ := ord_mem hb
    exact ⟨(hE.mr m hm).2, ord_parse g hb⟩
  clear g p3 G
  go_wp2_with fail
  refine (view_any Af cf f An cn n As cs s Ar cr r Ah ch h _ w.heap.size hN hE hT hnr hpar).mono ?_
  rintro e w2 ⟨A, c, rfl, hS, hc, hb⟩
  have hz := hB.size
  have hB2 := Below.on' hB hb
  clear hnr hpar
  go_wp2
  go_ret2
  exact RS2.of rfl rfl rfl hS hz hc hB2
end Go.Proofs.YtjmjilkpckbpeaaGreatDoor

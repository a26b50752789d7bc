/- The laws' own comparison of two channels: of the same it says that they are. Condition: at most 2^20 in each list. -/
import Derived.Test.YtjmjilkpckbpeaaGreatDoorSameMsg
import Derived.Test.YtjmjilkpckbpeaaGreatDoorLC
namespace Go.Proofs.YtjmjilkpckbpeaaGreatDoor
open Go.RowKit

set_option maxRecDepth 100000 in
set_option maxHeartbeats 2000000 in
theorem pSameChannel_any (A1 : Option Addr) (c1 : Nat) (A2 : Option Addr) (c2 : Nat) (A3 : Option Addr) (c3 : Nat) (B1 : Option Addr) (d1 : Nat) (B2 : Option Addr) (d2 : Nat) (B3 : Option Addr) (d3 : Nat) (s r h : List Msg) (w : World) (hs : s.length ≤ 1048576) (hr : r.length ≤ 1048576) (hh : h.length ≤ 1048576) (q1 : Msgs w 0 w.heap.size A1 s) (q2 : Msgs w 0 w.heap.size A2 r) (q3 : Msgs w 0 w.heap.size A3 h) (p1 : Msgs w 0 w.heap.size B1 s) (p2 : Msgs w 0 w.heap.size B2 r) (p3 : Msgs w 0 w.heap.size B3 h) :
    Calls Tryz.prog 10 #[.agg #[.slice A1 s.length c1, .slice A2 r.length c2, .slice A3 h.length c3], .agg #[.slice B1 s.length d1, .slice B2 r.length d2, .slice B3 h.length d3]] w (RV w (.bool true)) := by
  have hX := (Proofs.YtjmjilkpckbpeaaGreatDoor.B3.new w (.slice A1 s.length c1) (.slice A2 r.length c2) (.slice A3 h.length c3) 26 _ rfl).alloc (.cells #[.slice B1 s.length d1, .slice B2 r.length d2, .slice B3 h.length d3] 26)
  have hY := Proofs.YtjmjilkpckbpeaaGreatDoor.B3.new (w.alloc (.cells #[.slice A1 s.length c1, .slice A2 r.length c2, .slice A3 h.length c3] 26)) (.slice B1 s.length d1) (.slice B2 r.length d2) (.slice B3 h.length d3) 26 (w.heap.size + 1) (by simp)
  have hB : Below w.heap.size w ((w.alloc (.cells #[.slice A1 s.length c1, .slice A2 r.length c2, .slice A3 h.length c3] 26)).alloc (.cells #[.slice B1 s.length d1, .slice B2 r.length d2, .slice B3 h.length d3] 26)) := by go_grown
  go_enter Tryz.func10, Tryz.ntmps10
  obtain ⟨x0, x1, x2, _, _, _⟩ := id hX
  obtain ⟨y0, y1, y2, _, _, _⟩ := id hY
  go_wp2_with fail
  refine (pSameMessages_any A1 B1 c1 d1 _ _ _ _ s _ hs (q1.below hB) (p1.below hB)).mono ?_
  rintro e v1 ⟨rfl, hb⟩
  replace hX := hX.below hb
  replace hY := hY.below hb
  replace hB := Below.on' hB hb
  clear x0 x1 x2 y0 y1 y2 hb
  obtain ⟨x0, x1, x2, _, _, _⟩ := id hX
  obtain ⟨y0, y1, y2, _, _, _⟩ := id hY
  go_wp2_with fail
  refine (pSameMessages_any A2 B2 c2 d2 _ _ _ _ r _ hr (q2.below hB) (p2.below hB)).mono ?_
  rintro e v2 ⟨rfl, hb⟩
  replace hX := hX.below hb
  replace hY := hY.below hb
  replace hB := Below.on' hB hb
  clear x0 x1 x2 y0 y1 y2 hb
  obtain ⟨x0, x1, x2, _, _, _⟩ := id hX
  obtain ⟨y0, y1, y2, _, _, _⟩ := id hY
  go_wp2_with fail
  refine (pSameMessages_any A3 B3 c3 d3 _ _ _ _ h _ hh (q3.below hB) (p3.below hB)).mono ?_
  rintro e v3 ⟨rfl, hb⟩
  replace hX := hX.below hb
  replace hY := hY.below hb
  replace hB := Below.on' hB hb
  clear x0 x1 x2 y0 y1 y2 hb
  obtain ⟨x0, x1, x2, _, _, _⟩ := id hX
  obtain ⟨y0, y1, y2, _, _, _⟩ := id hY
  go_wp2
  go_ret
  exact RV.mk rfl hB
end Go.Proofs.YtjmjilkpckbpeaaGreatDoor

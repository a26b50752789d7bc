/- The laws' own comparison of two ends: of the same it says that they are; whether a list of texts holds one. Condition: at most 2^20 in each list. -/
import Derived.Test.YtjmjilkpckbpeaaGreatDoorSameMsg
import Derived.Test.YtjmjilkpckbpeaaGreatDoorSameApp
import Derived.Test.YtjmjilkpckbpeaaGreatDoorSameStrs
import Derived.Test.YtjmjilkpckbpeaaGreatDoorLC
import Derived.Test.YtjmjilkpckbpeaaGreatDoorLM
namespace Go.Proofs.YtjmjilkpckbpeaaGreatDoor
open Go.RowKit

set_option maxRecDepth 100000 in
set_option maxHeartbeats 2000000 in
theorem qChannel_any (A1 : Option Addr) (c1 : Nat) (A2 : Option Addr) (c2 : Nat) (A3 : Option Addr) (c3 : Nat) (B1 : Option Addr) (d1 : Nat) (B2 : Option Addr) (d2 : Nat) (B3 : Option Addr) (d3 : Nat) (s r h : List Msg) (w : World) (hs : s.length ≤ 1048576) (hr : r.length ≤ 1048576) (hh : h.length ≤ 1048576) (q1 : Msgs w 0 w.heap.size A1 s) (q2 : Msgs w 0 w.heap.size A2 r) (q3 : Msgs w 0 w.heap.size A3 h) (p1 : Msgs w 0 w.heap.size B1 s) (p2 : Msgs w 0 w.heap.size B2 r) (p3 : Msgs w 0 w.heap.size B3 h) :
    Calls Tryz.prog 119 #[.agg #[.slice A1 s.length c1, .slice A2 r.length c2, .slice A3 h.length c3], .agg #[.slice B1 s.length d1, .slice B2 r.length d2, .slice B3 h.length d3]] w (RV w (.bool true)) := by
  have hX := (Proofs.YtjmjilkpckbpeaaGreatDoor.B3.new w (.slice A1 s.length c1) (.slice A2 r.length c2) (.slice A3 h.length c3) 26 _ rfl).alloc (.cells #[.slice B1 s.length d1, .slice B2 r.length d2, .slice B3 h.length d3] 26)
  have hY := Proofs.YtjmjilkpckbpeaaGreatDoor.B3.new (w.alloc (.cells #[.slice A1 s.length c1, .slice A2 r.length c2, .slice A3 h.length c3] 26)) (.slice B1 s.length d1) (.slice B2 r.length d2) (.slice B3 h.length d3) 26 (w.heap.size + 1) (by simp)
  have hB : Below w.heap.size w ((w.alloc (.cells #[.slice A1 s.length c1, .slice A2 r.length c2, .slice A3 h.length c3] 26)).alloc (.cells #[.slice B1 s.length d1, .slice B2 r.length d2, .slice B3 h.length d3] 26)) := by go_grown
  go_enter Tryz.func119, Tryz.ntmps119
  obtain ⟨x0, x1, x2, _, _, _⟩ := id hX
  obtain ⟨y0, y1, y2, _, _, _⟩ := id hY
  go_wp2_with fail
  refine (qMessages_any A1 B1 c1 d1 _ _ _ _ s _ hs (q1.below hB) (p1.below hB)).mono ?_
  rintro e v1 ⟨rfl, hb⟩
  replace hX := hX.below hb
  replace hY := hY.below hb
  replace hB := Below.on' hB hb
  clear x0 x1 x2 y0 y1 y2 hb
  obtain ⟨x0, x1, x2, _, _, _⟩ := id hX
  obtain ⟨y0, y1, y2, _, _, _⟩ := id hY
  go_wp2_with fail
  refine (qMessages_any A2 B2 c2 d2 _ _ _ _ r _ hr (q2.below hB) (p2.below hB)).mono ?_
  rintro e v2 ⟨rfl, hb⟩
  replace hX := hX.below hb
  replace hY := hY.below hb
  replace hB := Below.on' hB hb
  clear x0 x1 x2 y0 y1 y2 hb
  obtain ⟨x0, x1, x2, _, _, _⟩ := id hX
  obtain ⟨y0, y1, y2, _, _, _⟩ := id hY
  go_wp2_with fail
  refine (qMessages_any A3 B3 c3 d3 _ _ _ _ h _ hh (q3.below hB) (p3.below hB)).mono ?_
  rintro e v3 ⟨rfl, hb⟩
  replace hX := hX.below hb
  replace hY := hY.below hb
  replace hB := Below.on' hB hb
  clear x0 x1 x2 y0 y1 y2 hb
  obtain ⟨x0, x1, x2, _, _, _⟩ := id hX
  obtain ⟨y0, y1, y2, _, _, _⟩ := id hY
  go_wp2
  go_ret
  exact RV.mk rfl hB
set_option maxRecDepth 100000 in
set_option maxHeartbeats 4000000 in
theorem qEnds_any (A1 : Option Addr) (c1 : Nat) (A2 : Option Addr) (c2 : Nat) (A3 : Option Addr) (c3 : Nat) (A4 : Option Addr) (c4 : Nat) (A5 : Option Addr) (c5 : Nat) (B1 : Option Addr) (d1 : Nat) (B2 : Option Addr) (d2 : Nat) (B3 : Option Addr) (d3 : Nat) (B4 : Option Addr) (d4 : Nat) (B5 : Option Addr) (d5 : Nat) (f n : List App) (s r h : List Msg) (w : World) (hf : f.length ≤ 1048576) (hn : n.length ≤ 1048576) (hs : s.length ≤ 1048576) (hr : r.length ≤ 1048576) (hh : h.length ≤ 1048576) (q1 : Apps w 0 w.heap.size A1 f) (q2 : Apps w 0 w.heap.size A2 n) (q3 : Msgs w 0 w.heap.size A3 s) (q4 : Msgs w 0 w.heap.size A4 r) (q5 : Msgs w 0 w.heap.size A5 h) (p1 : Apps w 0 w.heap.size B1 f) (p2 : Apps w 0 w.heap.size B2 n) (p3 : Msgs w 0 w.heap.size B3 s) (p4 : Msgs w 0 w.heap.size B4 r) (p5 : Msgs w 0 w.heap.size B5 h) :
    Calls Tryz.prog 41 #[.agg #[.slice A1 f.length c1, .slice A2 n.length c2, .slice A3 s.length c3, .slice A4 r.length c4, .slice A5 h.length c5], .agg #[.slice B1 f.length d1, .slice B2 n.length d2, .slice B3 s.length d3, .slice B4 r.length d4, .slice B5 h.length d5]] w (RV w (.bool true)) := by
  have hX : BN w.heap.size [.slice A1 f.length c1, .slice A2 n.length c2, .slice A3 s.length c3, .slice A4 r.length c4, .slice A5 h.length c5] ((w.alloc (.cells #[.slice A1 f.length c1, .slice A2 n.length c2, .slice A3 s.length c3, .slice A4 r.length c4, .slice A5 h.length c5] 52)).alloc (.cells #[.slice B1 f.length d1, .slice B2 n.length d2, .slice B3 s.length d3, .slice B4 r.length d4, .slice B5 h.length d5] 52)) := (BN.new w #[.slice A1 f.length c1, .slice A2 n.length c2, .slice A3 s.length c3, .slice A4 r.length c4, .slice A5 h.length c5] 52 _ rfl).below (by simp) ((Below.refl _ _).alloc (Nat.le_refl _) (.cells #[.slice B1 f.length d1, .slice B2 n.length d2, .slice B3 s.length d3, .slice B4 r.length d4, .slice B5 h.length d5] 52))
  have hY : BN (w.heap.size + 1) [.slice B1 f.length d1, .slice B2 n.length d2, .slice B3 s.length d3, .slice B4 r.length d4, .slice B5 h.length d5] ((w.alloc (.cells #[.slice A1 f.length c1, .slice A2 n.length c2, .slice A3 s.length c3, .slice A4 r.length c4, .slice A5 h.length c5] 52)).alloc (.cells #[.slice B1 f.length d1, .slice B2 n.length d2, .slice B3 s.length d3, .slice B4 r.length d4, .slice B5 h.length d5] 52)) := BN.new (w.alloc (.cells #[.slice A1 f.length c1, .slice A2 n.length c2, .slice A3 s.length c3, .slice A4 r.length c4, .slice A5 h.length c5] 52)) #[.slice B1 f.length d1, .slice B2 n.length d2, .slice B3 s.length d3, .slice B4 r.length d4, .slice B5 h.length d5] 52 _ (by simp)
  have hB : Below w.heap.size w ((w.alloc (.cells #[.slice A1 f.length c1, .slice A2 n.length c2, .slice A3 s.length c3, .slice A4 r.length c4, .slice A5 h.length c5] 52)).alloc (.cells #[.slice B1 f.length d1, .slice B2 n.length d2, .slice B3 s.length d3, .slice B4 r.length d4, .slice B5 h.length d5] 52)) := by go_grown
  go_enter Tryz.func41, Tryz.ntmps41
  have x0 := (hX 0 _ rfl).1
  have y0 := (hY 0 _ rfl).1
  have x1 := (hX 1 _ rfl).1
  have y1 := (hY 1 _ rfl).1
  have x2 := (hX 2 _ rfl).1
  have y2 := (hY 2 _ rfl).1
  have x3 := (hX 3 _ rfl).1
  have y3 := (hY 3 _ rfl).1
  have x4 := (hX 4 _ rfl).1
  have y4 := (hY 4 _ rfl).1
  go_wp2_with fail
  refine (qFleet_any A1 B1 c1 d1 _ _ _ _ f _ hf (q1.below hB) (p1.below hB)).mono ?_
  rintro e v1 ⟨rfl, hb⟩
  replace hX := hX.below (by simp) hb
  replace hY := hY.below (by simp) hb
  replace hB := Below.on' hB hb
  clear x0 y0 x1 y1 x2 y2 x3 y3 x4 y4 hb
  have x0 := (hX 0 _ rfl).1
  have y0 := (hY 0 _ rfl).1
  have x1 := (hX 1 _ rfl).1
  have y1 := (hY 1 _ rfl).1
  have x2 := (hX 2 _ rfl).1
  have y2 := (hY 2 _ rfl).1
  have x3 := (hX 3 _ rfl).1
  have y3 := (hY 3 _ rfl).1
  have x4 := (hX 4 _ rfl).1
  have y4 := (hY 4 _ rfl).1
  go_wp2_with fail
  refine (qFleet_any A2 B2 c2 d2 _ _ _ _ n _ hn (q2.below hB) (p2.below hB)).mono ?_
  rintro e v2 ⟨rfl, hb⟩
  replace hX := hX.below (by simp) hb
  replace hY := hY.below (by simp) hb
  replace hB := Below.on' hB hb
  clear x0 y0 x1 y1 x2 y2 x3 y3 x4 y4 hb
  have x0 := (hX 0 _ rfl).1
  have y0 := (hY 0 _ rfl).1
  have x1 := (hX 1 _ rfl).1
  have y1 := (hY 1 _ rfl).1
  have x2 := (hX 2 _ rfl).1
  have y2 := (hY 2 _ rfl).1
  have x3 := (hX 3 _ rfl).1
  have y3 := (hY 3 _ rfl).1
  have x4 := (hX 4 _ rfl).1
  have y4 := (hY 4 _ rfl).1
  go_wp2_with fail
  refine (qChannel_any A3 c3 A4 c4 A5 c5 B3 d3 B4 d4 B5 d5 s r h _ hs hr hh (q3.below hB).all (q4.below hB).all (q5.below hB).all (p3.below hB).all (p4.below hB).all (p5.below hB).all).mono ?_
  rintro e v3 ⟨rfl, hb⟩
  replace hB := Below.on' hB hb
  clear x0 y0 x1 y1 x2 y2 x3 y3 x4 y4 hb hX hY
  go_wp2
  go_ret
  exact RV.mk rfl hB
set_option maxHeartbeats 1000000 in
theorem qSay_any (A : Option Addr) (c lo hi : Nat) (L : List ByteArray) (p : ByteArray) (w : World) (hl : L.length ≤ 1048576) (hS : Strs w lo hi A L) : Calls Tryz.prog 48 #[.slice A L.length c, .string p] w (RV w (.bool ((L.any fun x : ByteArray => decide (x.toList = p.toList))))) := by
  go_enter Tryz.func48, Tryz.ntmps48
  go_wp2_with fail
  go_loopw [9] (fun i wr => ∃ k : Nat, k ≤ L.length ∧ i = .int .i64 k ∧ Hid (((L.take k).any fun x : ByteArray => decide (x.toList = p.toList)) = false) ∧ Below w.heap.size w wr) (fun i _ => L.length - (intOf i).toNat)
  case atStart => exact ⟨0, Nat.zero_le _, rfl, Lib.hid rfl, Below.refl _ _⟩
  case round =>
    obtain ⟨k, hk, rfl, HF, hB⟩ := hrel
    by_cases hlt : k < L.length
    · obtain ⟨x, hx, hxm⟩ := get_lt hlt
      obtain ⟨b, off, rfl, _, _, _, c0, _⟩ := Strs.at1 (hS.below hB) hx
      by_cases hq : x.toList = p.toList
      · have HT : Hid ((L.any fun x : ByteArray => decide (x.toList = p.toList)) = true) := Lib.hid (List.any_eq_true.2 ⟨x, hxm, decide_eq_true hq⟩)
        clear HF hx hxm
        have hq2 : (x.toList == p.toList) = true := by simpa using hq
        clear hq
        go_wp2
        go_ret
        exact RV.mk (by rw [HT.out]; rfl) hB
      · have hq' : (x.toList == p.toList) = false := by simpa using hq
        have HT : Hid (((L.take (k + 1)).any fun x : ByteArray => decide (x.toList = p.toList)) = false) := Lib.hid (by
          have := HF.out
          rw [take_snoc hx, List.any_append, this]
          simp [hq])
        clear HF hx hxm hq
        go_wp2
        go_roundw
        case rel => exact ⟨k + 1, by omega, by go_num, HT, hB⟩
        case measure => simp [intOf]; omega
    · have HT : Hid ((L.any fun x : ByteArray => decide (x.toList = p.toList)) = false) := Lib.hid (by have := HF.out; rwa [List.take_of_length_le (by omega)] at this)
      clear HF
      go_wp2
      go_ret
      exact RV.mk (by rw [HT.out]; rfl) hB
theorem say_yes {L : List ByteArray} {p : ByteArray} (h : p ∈ L) : (L.any fun x : ByteArray => decide (x.toList = p.toList)) = true := List.any_eq_true.2 ⟨p, h, decide_eq_true rfl⟩
end Go.Proofs.YtjmjilkpckbpeaaGreatDoor

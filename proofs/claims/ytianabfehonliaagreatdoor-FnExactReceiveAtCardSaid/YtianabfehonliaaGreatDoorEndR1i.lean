/- ReceiveAt, the program. Conditions: at most 2^20 in each list, texts of at most 2^20; the listed variables as Said has them. -/
import Derived.Test.YtianabfehonliaaGreatDoorLM
namespace Go.Proofs.YtianabfehonliaaGreatDoor
open Go.RowKit

set_option maxRecDepth 100000 in
set_option maxHeartbeats 8000000 in
theorem ReceiveAt_impl (Af : Option Addr) (cf : Nat) (f : List App) (An : Option Addr) (cn : Nat) (n : List App) (As : Option Addr) (cs : Nat) (s : List Msg) (Ar : Option Addr) (cr : Nat) (r : List Msg) (Ah : Option Addr) (ch : Nat) (h : List Msg) (i : Int) (w : World) (hE : EA w Af cf f An cn n As cs s Ar cr r Ah ch h) (hT : Said w) :
    Calls Tryz.prog 33 #[.agg #[.slice Af f.length cf, .slice An n.length cn, .slice As s.length cs, .slice Ar r.length cr, .slice Ah h.length ch], .int .i64 i] w (RENT w (recT f n s r h i)) := by
  generalize hQ : recT f n s r h i = t
  replace hQ := Lib.hid hQ
  have e1 : (w.alloc (.cells #[.slice Af f.length cf, .slice An n.length cn, .slice As s.length cs, .slice Ar r.length cr, .slice Ah h.length ch] 36)).heap.size = w.heap.size + 1 := by simp
  have hB : Below w.heap.size w ((w.alloc (.cells #[.slice Af f.length cf, .slice An n.length cn, .slice As s.length cs, .slice Ar r.length cr, .slice Ah h.length ch] 36)).alloc (.cells #[.slice none 0 0, .slice none 0 0, .slice none 0 0, .slice none 0 0, .slice none 0 0] 36)) := by go_grown
  have hX : BN w.heap.size [.slice Af f.length cf, .slice An n.length cn, .slice As s.length cs, .slice Ar r.length cr, .slice Ah h.length ch] ((w.alloc (.cells #[.slice Af f.length cf, .slice An n.length cn, .slice As s.length cs, .slice Ar r.length cr, .slice Ah h.length ch] 36)).alloc (.cells #[.slice none 0 0, .slice none 0 0, .slice none 0 0, .slice none 0 0, .slice none 0 0] 36)) := (BN.new w #[.slice Af f.length cf, .slice An n.length cn, .slice As s.length cs, .slice Ar r.length cr, .slice Ah h.length ch] 36 _ rfl).alloc (by simp) (.cells #[.slice none 0 0, .slice none 0 0, .slice none 0 0, .slice none 0 0, .slice none 0 0] 36)
  have hR : BN (w.heap.size + 1) [.slice none 0 0, .slice none 0 0, .slice none 0 0, .slice none 0 0, .slice none 0 0] ((w.alloc (.cells #[.slice Af f.length cf, .slice An n.length cn, .slice As s.length cs, .slice Ar r.length cr, .slice Ah h.length ch] 36)).alloc (.cells #[.slice none 0 0, .slice none 0 0, .slice none 0 0, .slice none 0 0, .slice none 0 0] 36)) := BN.new (w.alloc (.cells #[.slice Af f.length cf, .slice An n.length cn, .slice As s.length cs, .slice Ar r.length cr, .slice Ah h.length ch] 36)) #[.slice none 0 0, .slice none 0 0, .slice none 0 0, .slice none 0 0, .slice none 0 0] 36 (w.heap.size + 1) e1.symm
  have hE0 := hE
  replace hE := hE.below hB
  replace hT := hT.below hB
  have b0 := (hX 0 _ rfl).1
  have b1 := (hX 1 _ rfl).1
  have b2 := (hX 2 _ rfl).1
  have b3 := (hX 3 _ rfl).1
  have b4 := (hX 4 _ rfl).1
  go_enter Tryz.func33, Tryz.ntmps33
  go_wp2_with fail
  refine (areEnds_any Af cf f An cn n As cs s Ar cr r Ah ch h _ w.heap.size hX hE.lf hE.mf hE.Sf hE.ln hE.mn hE.Sn hE.ls hE.ms hE.Ss hE.ks hE.lr hE.mr hE.Sr hE.kr hE.lh hE.mh hE.Sh hE.kh hT).mono ?_
  rintro e w1 ⟨rfl, hb⟩
  replace hX := hX.below (by simp) hb
  replace hR := hR.below (by simp) hb
  replace hE := hE.below hb
  replace hT := hT.below hb
  replace hB := Below.on' hB hb
  clear b0 b1 b2 b3 b4 hb
  have b0 := (hX 0 _ rfl).1
  have b1 := (hX 1 _ rfl).1
  have b2 := (hX 2 _ rfl).1
  have b3 := (hX 3 _ rfl).1
  have b4 := (hX 4 _ rfl).1
  have hw1 : w.heap.size + 2 ≤ w1.heap.size := hR.lt (by simp)
  by_cases g : endsB f n s r h = true
  rotate_left
  · have g : endsB f n s r h = false := by simpa using g
    obtain rfl : enNo = t := (recT_no1 g).symm.trans hQ.out
    rw [g]
    have hR' := (((((hR.put (i := 0) rfl (.slice none 0 0)).put (i := 1) rfl (.slice none 0 0)).put (i := 2) rfl (.slice none 0 0)).put (i := 3) rfl (.slice none 0 0)).put (i := 4) rfl (.slice none 0 0))
    have hF : Fr ((w.heap.size + 1)) ((w.heap.size + 1) + 1) w1 (((((w1.setCell ⟨(w.heap.size + 1), 0, none⟩ (.slice none 0 0)).setCell ⟨(w.heap.size + 1), 1, none⟩ (.slice none 0 0)).setCell ⟨(w.heap.size + 1), 2, none⟩ (.slice none 0 0)).setCell ⟨(w.heap.size + 1), 3, none⟩ (.slice none 0 0)).setCell ⟨(w.heap.size + 1), 4, none⟩ (.slice none 0 0)) := ((((((Fr.refl _ _ _).setCell ⟨by simp, by simp⟩ _).setCell ⟨by simp, by simp⟩ _).setCell ⟨by simp, by simp⟩ _).setCell ⟨by simp, by simp⟩ _).setCell ⟨by simp, by simp⟩ _)
    have hB' := hB.trans (hF.below (B := w.heap.size) (by omega) (by have := hB.size; omega))
    have k0 := (hR 0 _ rfl).1
    have k1 := (hR 1 _ rfl).1
    have k2 := (hR 2 _ rfl).1
    have k3 := (hR 3 _ rfl).1
    have k4 := (hR 4 _ rfl).1
    have f0 := (hR 0 _ rfl).2
    have f1 := (hR 1 _ rfl).2
    have f2 := (hR 2 _ rfl).2
    have f3 := (hR 3 _ rfl).2
    have f4 := (hR 4 _ rfl).2
    have x0 := (hR' 0 _ rfl).1
    have x1 := (hR' 1 _ rfl).1
    have x2 := (hR' 2 _ rfl).1
    have x3 := (hR' 3 _ rfl).1
    have x4 := (hR' 4 _ rfl).1
    go_wp2
    refine bodyPost_ret (by simp [results, Tryz.results33, go_sem, x0, x1, x2, x3, x4]; try rfl) rfl ?_
    exact ⟨none, 0, none, 0, none, 0, none, 0, none, 0, rfl, IntE.nil_ hB'.size, hB'⟩
  rw [g]
  have hlw : wrap64 ((s.length : Int) - 1) = (s.length : Int) - 1 := by have := hE.ls; unfold wrap64; omega
  go_wp2_with fail
  clear hlw
  refine (inside_any i 0 _ _).mono ?_
  rintro e w2 ⟨rfl, hb⟩
  replace hX := hX.below (by simp) hb
  replace hR := hR.below (by simp) hb
  replace hE := hE.below hb
  replace hT := hT.below hb
  replace hB := Below.on' hB hb
  clear b0 b1 b2 b3 b4 hb
  have b0 := (hX 0 _ rfl).1
  have b1 := (hX 1 _ rfl).1
  have b2 := (hX 2 _ rfl).1
  have b3 := (hX 3 _ rfl).1
  have b4 := (hX 4 _ rfl).1
  have hw2 : w.heap.size + 2 ≤ w2.heap.size := hR.lt (by simp)
  by_cases g2 : inB i 0 ((s.length : Int) - 1) = true
  rotate_left
  · have g2 : inB i 0 ((s.length : Int) - 1) = false := by simpa using g2
    obtain rfl : enNo = t := (recT_no2 g2).symm.trans hQ.out
    rw [g2]
    have hR' := (((((hR.put (i := 0) rfl (.slice none 0 0)).put (i := 1) rfl (.slice none 0 0)).put (i := 2) rfl (.slice none 0 0)).put (i := 3) rfl (.slice none 0 0)).put (i := 4) rfl (.slice none 0 0))
    have hF : Fr ((w.heap.size + 1)) ((w.heap.size + 1) + 1) w2 (((((w2.setCell ⟨(w.heap.size + 1), 0, none⟩ (.slice none 0 0)).setCell ⟨(w.heap.size + 1), 1, none⟩ (.slice none 0 0)).setCell ⟨(w.heap.size + 1), 2, none⟩ (.slice none 0 0)).setCell ⟨(w.heap.size + 1), 3, none⟩ (.slice none 0 0)).setCell ⟨(w.heap.size + 1), 4, none⟩ (.slice none 0 0)) := ((((((Fr.refl _ _ _).setCell ⟨by simp, by simp⟩ _).setCell ⟨by simp, by simp⟩ _).setCell ⟨by simp, by simp⟩ _).setCell ⟨by simp, by simp⟩ _).setCell ⟨by simp, by simp⟩ _)
    have hB' := hB.trans (hF.below (B := w.heap.size) (by omega) (by have := hB.size; omega))
    have k0 := (hR 0 _ rfl).1
    have k1 := (hR 1 _ rfl).1
    have k2 := (hR 2 _ rfl).1
    have k3 := (hR 3 _ rfl).1
    have k4 := (hR 4 _ rfl).1
    have f0 := (hR 0 _ rfl).2
    have f1 := (hR 1 _ rfl).2
    have f2 := (hR 2 _ rfl).2
    have f3 := (hR 3 _ rfl).2
    have f4 := (hR 4 _ rfl).2
    have x0 := (hR' 0 _ rfl).1
    have x1 := (hR' 1 _ rfl).1
    have x2 := (hR' 2 _ rfl).1
    have x3 := (hR' 3 _ rfl).1
    have x4 := (hR' 4 _ rfl).1
    go_wp2
    refine bodyPost_ret (by simp [results, Tryz.results33, go_sem, x0, x1, x2, x3, x4]; try rfl) rfl ?_
    exact ⟨none, 0, none, 0, none, 0, none, 0, none, 0, rfl, IntE.nil_ hB'.size, hB'⟩
  rw [g2]
  obtain ⟨k, rfl, hk⟩ := nat_of g2
  obtain ⟨m, hm, _⟩ := get_lt hk
  obtain rfl := (recT_yes g g2 hm).symm.trans hQ.out
  have hlr := hE.lr
  clear hQ g g2
  go_wp2_with fail
  refine (copyEnds_any w.heap.size Af cf f An cn n As cs s Ar cr r Ah ch h _ hX hE.lf hE.Sf hE.ln hE.Sn hE.ls hE.Ss hE.lr hE.Sr hE.lh hE.Sh).mono ?_
  rintro e w3 ⟨A1, c1, A2, c2, A3, c3, A4, c4, A5, c5, rfl, hC, hb⟩
  have hls := hE.ls
  replace hR := hR.below (by simp) hb
  replace hB := Below.on' hB hb
  obtain ⟨m1, m2, q⟩ := RI.start (c1 := c1) (c2 := c2) hC hR hB (show w.heap.size + 2 ≤ w2.heap.size from hw2)
  clear b0 b1 b2 b3 b4 hb hC hR hX hE hT hB hE0
  go_wp2_with fail
  refine (q.deliver hls hlr k m hm).mono ?_
  rintro e w4 ⟨A', c', rfl, q', _, _, _⟩
  clear q
  have q := q'
  clear q'
  have hR := q.R
  have hB := q.B
  have hlt := hR.lt (by simp)
  have q0 := q.k0
  have y0 := (q.Y 0 _ rfl).1
  have y1 := (q.Y 1 _ rfl).1
  have y2 := (q.Y 2 _ rfl).1
  have y3 := (q.Y 3 _ rfl).1
  have y4 := (q.Y 4 _ rfl).1
  have hR' := (((((hR.put (i := 0) rfl (.slice A1 f.length c1)).put (i := 1) rfl (.slice A2 n.length c2)).put (i := 2) rfl (.slice A3 s.length c3)).put (i := 3) rfl (.slice A' (addM r m).length c')).put (i := 4) rfl (.slice A5 h.length c5))
  have hF : Fr ((w.heap.size + 1)) ((w.heap.size + 1) + 1) w4 (((((w4.setCell ⟨(w.heap.size + 1), 0, none⟩ (.slice A1 f.length c1)).setCell ⟨(w.heap.size + 1), 1, none⟩ (.slice A2 n.length c2)).setCell ⟨(w.heap.size + 1), 2, none⟩ (.slice A3 s.length c3)).setCell ⟨(w.heap.size + 1), 3, none⟩ (.slice A' (addM r m).length c')).setCell ⟨(w.heap.size + 1), 4, none⟩ (.slice A5 h.length c5)) := ((((((Fr.refl _ _ _).setCell ⟨by simp, by simp⟩ _).setCell ⟨by simp, by simp⟩ _).setCell ⟨by simp, by simp⟩ _).setCell ⟨by simp, by simp⟩ _).setCell ⟨by simp, by simp⟩ _)
  have hB' := hB.trans (hF.below (B := w.heap.size) (by omega) (by have := hB.size; omega))
  have k0 := (hR 0 _ rfl).1
  have k1 := (hR 1 _ rfl).1
  have k2 := (hR 2 _ rfl).1
  have k3 := (hR 3 _ rfl).1
  have k4 := (hR 4 _ rfl).1
  have f0 := (hR 0 _ rfl).2
  have f1 := (hR 1 _ rfl).2
  have f2 := (hR 2 _ rfl).2
  have f3 := (hR 3 _ rfl).2
  have f4 := (hR 4 _ rfl).2
  have x0 := (hR' 0 _ rfl).1
  have x1 := (hR' 1 _ rfl).1
  have x2 := (hR' 2 _ rfl).1
  have x3 := (hR' 3 _ rfl).1
  have x4 := (hR' 4 _ rfl).1
  go_wp2
  refine bodyPost_ret (by simp [results, Tryz.results33, go_sem, x0, x1, x2, x3, x4]; try rfl) rfl ?_
  exact ⟨A1, c1, A2, c2, A3, c3, A', c', A5, c5, rfl, q.done hF, hB'⟩
end Go.Proofs.YtianabfehonliaaGreatDoor

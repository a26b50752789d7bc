/- Delivering and confirming, on both sides: the channel's rows are the call's own. Conditions: at most 2^20 in each list, texts of at most 2^20. -/
import Derived.Test.YtjmjilkpckbpeaaGreatDoorLD
import Derived.Test.YtjmjilkpckbpeaaGreatDoorSndC
namespace Go.Proofs.YtjmjilkpckbpeaaGreatDoor
open Go.RowKit

set_option maxRecDepth 100000 in
set_option maxHeartbeats 8000000 in
theorem Deliver_implO (As : Option Addr) (cs : Nat) (s : List Msg) (Ar : Option Addr) (cr : Nat) (r : List Msg) (Ah : Option Addr) (ch : Nat) (h : List Msg) (i : Int) (w : World) (hls : s.length ≤ 1048576) (hms : ∀ y ∈ s, y.f.size ≤ 1048576 ∧ y.b.size ≤ 1048576) (hSs : Msgs w 0 w.heap.size As s) (hcs : s.length ≤ cs) (hlr : r.length ≤ 1048576) (hmr : ∀ y ∈ r, y.f.size ≤ 1048576 ∧ y.b.size ≤ 1048576) (hSr : Msgs w 0 w.heap.size Ar r) (hcr : r.length ≤ cr) (hlh : h.length ≤ 1048576) (hmh : ∀ y ∈ h, y.f.size ≤ 1048576 ∧ y.b.size ≤ 1048576) (hSh : Msgs w 0 w.heap.size Ah h) (hch : h.length ≤ ch) :
    Calls Tryz.prog 8 #[.agg #[.slice As s.length cs, .slice Ar r.length cr, .slice Ah h.length ch], .int .i64 i] w (RCO w (delT s r h i)) := by
  generalize hT : delT s r h i = t
  replace hT := Lib.hid hT
  have e1 : (w.alloc (.cells #[.slice As s.length cs, .slice Ar r.length cr, .slice Ah h.length ch] 26)).heap.size = w.heap.size + 1 := by simp
  have hX := (B3.new w (.slice As s.length cs) (.slice Ar r.length cr) (.slice Ah h.length ch) 26 _ rfl).alloc (.cells #[.slice none 0 0, .slice none 0 0, .slice none 0 0] 26)
  have hR := B3.new (w.alloc (.cells #[.slice As s.length cs, .slice Ar r.length cr, .slice Ah h.length ch] 26)) (.slice none 0 0) (.slice none 0 0) (.slice none 0 0) 26 (w.heap.size + 1) e1.symm
  obtain ⟨b0, b1, b2, _, _, _⟩ := id hX
  go_enter Tryz.func8, Tryz.ntmps8
  go_wp2_with fail
  refine (isChannel_any w.heap.size 0 As cs s Ar cr r Ah ch h _ hX.c3 hls hms ((hSs.alloc _).alloc _).all hcs hlr hmr ((hSr.alloc _).alloc _).all hcr hlh hmh ((hSh.alloc _).alloc _).all hch).mono ?_
  rintro e v1 ⟨rfl, hb⟩
  have hB : Below w.heap.size w v1 := Below.on' (by go_grown) hb
  replace hX := hX.below hb
  replace hR := hR.below hb
  clear b0 b1 b2 e1 hb
  obtain ⟨b0, b1, b2, _, _, _⟩ := id hX
  by_cases g : chanB s r h = true
  rotate_left
  · have g : chanB s r h = false := by simpa using g
    obtain rfl : chNo = t := (delT_no (by rw [okI, g]; rfl)).trans hT.out
    rw [g]
    obtain ⟨k0, k1, k2, f0, f1, f2⟩ := id hR
    have hR' := ((hR.set0 (.slice none 0 0)).set1 (.slice none 0 0)).set2 (.slice none 0 0)
    have hF : Fr (w.heap.size + 1) ((w.heap.size + 1) + 1) v1 (((v1.setCell ⟨(w.heap.size + 1), 0, none⟩ (.slice none 0 0)).setCell ⟨(w.heap.size + 1), 1, none⟩ (.slice none 0 0)).setCell ⟨(w.heap.size + 1), 2, none⟩ (.slice none 0 0)) := (((Fr.refl _ _ _).setCell ⟨by simp, by simp⟩ _).setCell ⟨by simp, by simp⟩ _).setCell ⟨by simp, by simp⟩ _
    have hB' := hB.trans (hF.below (B := w.heap.size) (by omega) (by have := hB.size; omega))
    have hI := fun W => OwnC.nil (w := W) (base := w.heap.size)
    obtain ⟨x0, x1, x2, _, _, _⟩ := id hR'
    go_wp2
    refine bodyPost_ret (by simp [results, Tryz.results8, go_sem, x0, x1, x2]; try rfl) rfl ?_
    exact ⟨none, 0, none, 0, none, 0, rfl, hI _, hB'⟩
  rw [g]
  go_wp2_with fail
  refine (inside_any i 0 _ _).mono ?_
  rintro e v2 ⟨rfl, hb⟩
  replace hB := Below.on' hB hb
  replace hX := hX.below hb
  replace hR := hR.below hb
  clear b0 b1 b2 hb
  obtain ⟨b0, b1, b2, _, _, _⟩ := id hX
  by_cases g2 : inB i 0 ((s.length : Int) - 1) = true
  rotate_left
  · have g2 : inB i 0 ((s.length : Int) - 1) = false := by simpa using g2
    obtain rfl : chNo = t := (delT_no (by rw [okI, g, g2]; rfl)).trans hT.out
    rw [g2]
    obtain ⟨k0, k1, k2, f0, f1, f2⟩ := id hR
    have hR' := ((hR.set0 (.slice none 0 0)).set1 (.slice none 0 0)).set2 (.slice none 0 0)
    have hF : Fr (w.heap.size + 1) ((w.heap.size + 1) + 1) v2 (((v2.setCell ⟨(w.heap.size + 1), 0, none⟩ (.slice none 0 0)).setCell ⟨(w.heap.size + 1), 1, none⟩ (.slice none 0 0)).setCell ⟨(w.heap.size + 1), 2, none⟩ (.slice none 0 0)) := (((Fr.refl _ _ _).setCell ⟨by simp, by simp⟩ _).setCell ⟨by simp, by simp⟩ _).setCell ⟨by simp, by simp⟩ _
    have hB' := hB.trans (hF.below (B := w.heap.size) (by omega) (by have := hB.size; omega))
    have hI := fun W => OwnC.nil (w := W) (base := w.heap.size)
    obtain ⟨x0, x1, x2, _, _, _⟩ := id hR'
    go_wp2
    refine bodyPost_ret (by simp [results, Tryz.results8, go_sem, x0, x1, x2]; try rfl) rfl ?_
    exact ⟨none, 0, none, 0, none, 0, rfl, hI _, hB'⟩
  rw [g2]
  obtain ⟨k, rfl, hk⟩ := nat_of g2
  obtain ⟨m, hm, _⟩ := get_lt hk
  have G := ChanG.of g
  obtain rfl := (delT_yes (by rw [okI, g, g2]; rfl) hm).trans hT.out
  clear hT g g2
  go_wp2_with fail
  refine (copyChannel_any w.heap.size 0 As cs s Ar cr r Ah ch h _ hX.c3 hls (hSs.below hB).all hlr (hSr.below hB).all hlh (hSh.below hB).all).mono ?_
  rintro e v3 ⟨A1, c1, A2, c2, A3, c3, rfl, hO, hb⟩
  have hz := hR.lt
  have hz3 := hb.size
  replace hB := Below.on' hB hb
  replace hR := hR.below hb
  clear b0 b1 b2 hb hX
  have hY := B3.new v3 (.slice A1 s.length c1) (.slice A2 r.length c2) (.slice A3 h.length c3) 26 _ rfl
  have k1 := hR.lt
  go_wp2_with fail
  refine (deliver_any v3.heap.size 0 v2.heap.size A1 c1 s A2 c2 r A3 c3 h _ hY.c3 (hO.alloc _) (by simp; omega) hz3 (dis_lt hO.o1.blk) (dis_lt hO.o2.blk) (dis_lt hO.o3.blk) hls hlr k m hm).mono ?_
  rintro e v4 ⟨A', c', rfl, hC, hO', _, hb, _, _⟩
  replace hO := hO'
  clear hO'
  have hY := hC.b3
  have hzz := hC.lt
  replace hB := (hB.alloc hB.size (.cells #[.slice A1 s.length c1, .slice A2 r.length c2, .slice A3 h.length c3] 26)).trans (hb.mono (by omega))
  replace hR := (hR.alloc (.cells #[.slice A1 s.length c1, .slice A2 r.length c2, .slice A3 h.length c3] 26)).upto (by omega) hb
  clear hb hC k1
  obtain ⟨y0, y1, y2, _, _, _⟩ := id hY
  have k1 := hY.lt
  obtain ⟨k0, k1, k2, f0, f1, f2⟩ := id hR
  have hR' := ((hR.set0 (.slice A1 s.length c1)).set1 (.slice A' (addM r m).length c')).set2 (.slice A3 h.length c3)
  have hF : Fr (w.heap.size + 1) ((w.heap.size + 1) + 1) v4 (((v4.setCell ⟨(w.heap.size + 1), 0, none⟩ (.slice A1 s.length c1)).setCell ⟨(w.heap.size + 1), 1, none⟩ (.slice A' (addM r m).length c')).setCell ⟨(w.heap.size + 1), 2, none⟩ (.slice A3 h.length c3)) := (((Fr.refl _ _ _).setCell ⟨by simp, by simp⟩ _).setCell ⟨by simp, by simp⟩ _).setCell ⟨by simp, by simp⟩ _
  have hB' := hB.trans (hF.below (B := w.heap.size) (by omega) (by have := hB.size; omega))
  have hO' := (hO.far hF (by omega)).lift (b0 := w.heap.size) (by omega)
  obtain ⟨x0, x1, x2, _, _, _⟩ := id hR'
  go_wp2
  refine bodyPost_ret (by simp [results, Tryz.results8, go_sem, x0, x1, x2]; try rfl) rfl ?_
  exact ⟨A1, c1, A', c', A3, c3, rfl, hO', hB'⟩
set_option maxRecDepth 100000 in
set_option maxHeartbeats 8000000 in
theorem Deliver_specO (As : Option Addr) (cs : Nat) (s : List Msg) (Ar : Option Addr) (cr : Nat) (r : List Msg) (Ah : Option Addr) (ch : Nat) (h : List Msg) (i : Int) (w : World) (hls : s.length ≤ 1048576) (hms : ∀ y ∈ s, y.f.size ≤ 1048576 ∧ y.b.size ≤ 1048576) (hSs : Msgs w 0 w.heap.size As s) (hcs : s.length ≤ cs) (hlr : r.length ≤ 1048576) (hmr : ∀ y ∈ r, y.f.size ≤ 1048576 ∧ y.b.size ≤ 1048576) (hSr : Msgs w 0 w.heap.size Ar r) (hcr : r.length ≤ cr) (hlh : h.length ≤ 1048576) (hmh : ∀ y ∈ h, y.f.size ≤ 1048576 ∧ y.b.size ≤ 1048576) (hSh : Msgs w 0 w.heap.size Ah h) (hch : h.length ≤ ch) :
    Calls Tryz.prog 9 #[.agg #[.slice As s.length cs, .slice Ar r.length cr, .slice Ah h.length ch], .int .i64 i] w (RCO w (delT s r h i)) := by
  generalize hT : delT s r h i = t
  replace hT := Lib.hid hT
  have e1 : (w.alloc (.cells #[.slice As s.length cs, .slice Ar r.length cr, .slice Ah h.length ch] 26)).heap.size = w.heap.size + 1 := by simp
  have hX := (B3.new w (.slice As s.length cs) (.slice Ar r.length cr) (.slice Ah h.length ch) 26 _ rfl).alloc (.cells #[.slice none 0 0, .slice none 0 0, .slice none 0 0] 26)
  have hR := B3.new (w.alloc (.cells #[.slice As s.length cs, .slice Ar r.length cr, .slice Ah h.length ch] 26)) (.slice none 0 0) (.slice none 0 0) (.slice none 0 0) 26 (w.heap.size + 1) e1.symm
  obtain ⟨b0, b1, b2, _, _, _⟩ := id hX
  go_enter Tryz.func9, Tryz.ntmps9
  go_wp2_with fail
  refine (raGood_any As cs s Ar cr r Ah ch h _ hls hms ((hSs.alloc _).alloc _).all hcs hlr hmr ((hSr.alloc _).alloc _).all hcr hlh hmh ((hSh.alloc _).alloc _).all hch).mono ?_
  rintro e v1 ⟨rfl, hb⟩
  have hB : Below w.heap.size w v1 := Below.on' (by go_grown) hb
  replace hX := hX.below hb
  replace hR := hR.below hb
  clear b0 b1 b2 e1 hb
  obtain ⟨b0, b1, b2, _, _, _⟩ := id hX
  by_cases g : chanB s r h = true
  rotate_left
  · have g : chanB s r h = false := by simpa using g
    obtain rfl : chNo = t := (delT_no (by rw [okI, g]; rfl)).trans hT.out
    rw [g]
    obtain ⟨k0, k1, k2, f0, f1, f2⟩ := id hR
    have hR' := ((hR.set0 (.slice none 0 0)).set1 (.slice none 0 0)).set2 (.slice none 0 0)
    have hF : Fr (w.heap.size + 1) ((w.heap.size + 1) + 1) v1 (((v1.setCell ⟨(w.heap.size + 1), 0, none⟩ (.slice none 0 0)).setCell ⟨(w.heap.size + 1), 1, none⟩ (.slice none 0 0)).setCell ⟨(w.heap.size + 1), 2, none⟩ (.slice none 0 0)) := (((Fr.refl _ _ _).setCell ⟨by simp, by simp⟩ _).setCell ⟨by simp, by simp⟩ _).setCell ⟨by simp, by simp⟩ _
    have hB' := hB.trans (hF.below (B := w.heap.size) (by omega) (by have := hB.size; omega))
    have hI := fun W => OwnC.nil (w := W) (base := w.heap.size)
    obtain ⟨x0, x1, x2, _, _, _⟩ := id hR'
    go_wp2
    refine bodyPost_ret (by simp [results, Tryz.results9, go_sem, x0, x1, x2]; try rfl) rfl ?_
    exact ⟨none, 0, none, 0, none, 0, rfl, hI _, hB'⟩
  rw [g]
  go_wp2_with fail
  refine (l1In_any i 0 _ _).mono ?_
  rintro e v2 ⟨rfl, hb⟩
  replace hB := Below.on' hB hb
  replace hX := hX.below hb
  replace hR := hR.below hb
  clear b0 b1 b2 hb
  obtain ⟨b0, b1, b2, _, _, _⟩ := id hX
  by_cases g2 : inB i 0 ((s.length : Int) - 1) = true
  rotate_left
  · have g2 : inB i 0 ((s.length : Int) - 1) = false := by simpa using g2
    obtain rfl : chNo = t := (delT_no (by rw [okI, g, g2]; rfl)).trans hT.out
    rw [g2]
    obtain ⟨k0, k1, k2, f0, f1, f2⟩ := id hR
    have hR' := ((hR.set0 (.slice none 0 0)).set1 (.slice none 0 0)).set2 (.slice none 0 0)
    have hF : Fr (w.heap.size + 1) ((w.heap.size + 1) + 1) v2 (((v2.setCell ⟨(w.heap.size + 1), 0, none⟩ (.slice none 0 0)).setCell ⟨(w.heap.size + 1), 1, none⟩ (.slice none 0 0)).setCell ⟨(w.heap.size + 1), 2, none⟩ (.slice none 0 0)) := (((Fr.refl _ _ _).setCell ⟨by simp, by simp⟩ _).setCell ⟨by simp, by simp⟩ _).setCell ⟨by simp, by simp⟩ _
    have hB' := hB.trans (hF.below (B := w.heap.size) (by omega) (by have := hB.size; omega))
    have hI := fun W => OwnC.nil (w := W) (base := w.heap.size)
    obtain ⟨x0, x1, x2, _, _, _⟩ := id hR'
    go_wp2
    refine bodyPost_ret (by simp [results, Tryz.results9, go_sem, x0, x1, x2]; try rfl) rfl ?_
    exact ⟨none, 0, none, 0, none, 0, rfl, hI _, hB'⟩
  rw [g2]
  obtain ⟨k, rfl, hk⟩ := nat_of g2
  obtain ⟨m, hm, _⟩ := get_lt hk
  have G := ChanG.of g
  obtain rfl := (delT_yes (by rw [okI, g, g2]; rfl) hm).trans hT.out
  clear hT g g2
  go_wp2_with fail
  refine (raDeliver_any As cs s Ar cr r Ah ch h _ hls (hSs.below hB).all hlr (hSr.below hB).all hlh (hSh.below hB).all k m hm).mono ?_
  rw [addW_eq G.key G.rs (List.mem_of_getElem? hm)]
  rintro e v3 ⟨A1, c1, A2, c2, A3, c3, rfl, hO, hb⟩
  have hz := hR.lt
  replace hB := Below.on' hB hb
  replace hR := hR.below hb
  clear b0 b1 b2 hb
  obtain ⟨k0, k1, k2, f0, f1, f2⟩ := id hR
  have hR' := ((hR.set0 (.slice A1 s.length c1)).set1 (.slice A2 (addM r m).length c2)).set2 (.slice A3 h.length c3)
  have hF : Fr (w.heap.size + 1) ((w.heap.size + 1) + 1) v3 (((v3.setCell ⟨(w.heap.size + 1), 0, none⟩ (.slice A1 s.length c1)).setCell ⟨(w.heap.size + 1), 1, none⟩ (.slice A2 (addM r m).length c2)).setCell ⟨(w.heap.size + 1), 2, none⟩ (.slice A3 h.length c3)) := (((Fr.refl _ _ _).setCell ⟨by simp, by simp⟩ _).setCell ⟨by simp, by simp⟩ _).setCell ⟨by simp, by simp⟩ _
  have hB' := hB.trans (hF.below (B := w.heap.size) (by omega) (by have := hB.size; omega))
  have hO' := (hO.far hF (by omega)).lift (b0 := w.heap.size) (by omega)
  obtain ⟨x0, x1, x2, _, _, _⟩ := id hR'
  go_wp2
  refine bodyPost_ret (by simp [results, Tryz.results9, go_sem, x0, x1, x2]; try rfl) rfl ?_
  exact ⟨A1, c1, A2, c2, A3, c3, rfl, hO', hB'⟩
set_option maxRecDepth 100000 in
set_option maxHeartbeats 8000000 in
theorem Confirm_implO (As : Option Addr) (cs : Nat) (s : List Msg) (Ar : Option Addr) (cr : Nat) (r : List Msg) (Ah : Option Addr) (ch : Nat) (h : List Msg) (i : Int) (w : World) (hls : s.length ≤ 1048576) (hms : ∀ y ∈ s, y.f.size ≤ 1048576 ∧ y.b.size ≤ 1048576) (hSs : Msgs w 0 w.heap.size As s) (hcs : s.length ≤ cs) (hlr : r.length ≤ 1048576) (hmr : ∀ y ∈ r, y.f.size ≤ 1048576 ∧ y.b.size ≤ 1048576) (hSr : Msgs w 0 w.heap.size Ar r) (hcr : r.length ≤ cr) (hlh : h.length ≤ 1048576) (hmh : ∀ y ∈ h, y.f.size ≤ 1048576 ∧ y.b.size ≤ 1048576) (hSh : Msgs w 0 w.heap.size Ah h) (hch : h.length ≤ ch) :
    Calls Tryz.prog 14 #[.agg #[.slice As s.length cs, .slice Ar r.length cr, .slice Ah h.length ch], .int .i64 i] w (RCO w (conT s r h i)) := by
  generalize hT : conT s r h i = t
  replace hT := Lib.hid hT
  have e1 : (w.alloc (.cells #[.slice As s.length cs, .slice Ar r.length cr, .slice Ah h.length ch] 26)).heap.size = w.heap.size + 1 := by simp
  have hX := (B3.new w (.slice As s.length cs) (.slice Ar r.length cr) (.slice Ah h.length ch) 26 _ rfl).alloc (.cells #[.slice none 0 0, .slice none 0 0, .slice none 0 0] 26)
  have hR := B3.new (w.alloc (.cells #[.slice As s.length cs, .slice Ar r.length cr, .slice Ah h.length ch] 26)) (.slice none 0 0) (.slice none 0 0) (.slice none 0 0) 26 (w.heap.size + 1) e1.symm
  obtain ⟨b0, b1, b2, _, _, _⟩ := id hX
  go_enter Tryz.func14, Tryz.ntmps14
  go_wp2_with fail
  refine (isChannel_any w.heap.size 0 As cs s Ar cr r Ah ch h _ hX.c3 hls hms ((hSs.alloc _).alloc _).all hcs hlr hmr ((hSr.alloc _).alloc _).all hcr hlh hmh ((hSh.alloc _).alloc _).all hch).mono ?_
  rintro e v1 ⟨rfl, hb⟩
  have hB : Below w.heap.size w v1 := Below.on' (by go_grown) hb
  replace hX := hX.below hb
  replace hR := hR.below hb
  clear b0 b1 b2 e1 hb
  obtain ⟨b0, b1, b2, _, _, _⟩ := id hX
  by_cases g : chanB s r h = true
  rotate_left
  · have g : chanB s r h = false := by simpa using g
    obtain rfl : chNo = t := (conT_no (by rw [okI, g]; rfl)).trans hT.out
    rw [g]
    obtain ⟨k0, k1, k2, f0, f1, f2⟩ := id hR
    have hR' := ((hR.set0 (.slice none 0 0)).set1 (.slice none 0 0)).set2 (.slice none 0 0)
    have hF : Fr (w.heap.size + 1) ((w.heap.size + 1) + 1) v1 (((v1.setCell ⟨(w.heap.size + 1), 0, none⟩ (.slice none 0 0)).setCell ⟨(w.heap.size + 1), 1, none⟩ (.slice none 0 0)).setCell ⟨(w.heap.size + 1), 2, none⟩ (.slice none 0 0)) := (((Fr.refl _ _ _).setCell ⟨by simp, by simp⟩ _).setCell ⟨by simp, by simp⟩ _).setCell ⟨by simp, by simp⟩ _
    have hB' := hB.trans (hF.below (B := w.heap.size) (by omega) (by have := hB.size; omega))
    have hI := fun W => OwnC.nil (w := W) (base := w.heap.size)
    obtain ⟨x0, x1, x2, _, _, _⟩ := id hR'
    go_wp2
    refine bodyPost_ret (by simp [results, Tryz.results14, go_sem, x0, x1, x2]; try rfl) rfl ?_
    exact ⟨none, 0, none, 0, none, 0, rfl, hI _, hB'⟩
  rw [g]
  go_wp2_with fail
  refine (inside_any i 0 _ _).mono ?_
  rintro e v2 ⟨rfl, hb⟩
  replace hB := Below.on' hB hb
  replace hX := hX.below hb
  replace hR := hR.below hb
  clear b0 b1 b2 hb
  obtain ⟨b0, b1, b2, _, _, _⟩ := id hX
  by_cases g2 : inB i 0 ((r.length : Int) - 1) = true
  rotate_left
  · have g2 : inB i 0 ((r.length : Int) - 1) = false := by simpa using g2
    obtain rfl : chNo = t := (conT_no (by rw [okI, g, g2]; rfl)).trans hT.out
    rw [g2]
    obtain ⟨k0, k1, k2, f0, f1, f2⟩ := id hR
    have hR' := ((hR.set0 (.slice none 0 0)).set1 (.slice none 0 0)).set2 (.slice none 0 0)
    have hF : Fr (w.heap.size + 1) ((w.heap.size + 1) + 1) v2 (((v2.setCell ⟨(w.heap.size + 1), 0, none⟩ (.slice none 0 0)).setCell ⟨(w.heap.size + 1), 1, none⟩ (.slice none 0 0)).setCell ⟨(w.heap.size + 1), 2, none⟩ (.slice none 0 0)) := (((Fr.refl _ _ _).setCell ⟨by simp, by simp⟩ _).setCell ⟨by simp, by simp⟩ _).setCell ⟨by simp, by simp⟩ _
    have hB' := hB.trans (hF.below (B := w.heap.size) (by omega) (by have := hB.size; omega))
    have hI := fun W => OwnC.nil (w := W) (base := w.heap.size)
    obtain ⟨x0, x1, x2, _, _, _⟩ := id hR'
    go_wp2
    refine bodyPost_ret (by simp [results, Tryz.results14, go_sem, x0, x1, x2]; try rfl) rfl ?_
    exact ⟨none, 0, none, 0, none, 0, rfl, hI _, hB'⟩
  rw [g2]
  obtain ⟨k, rfl, hk⟩ := nat_of g2
  obtain ⟨m, hm, _⟩ := get_lt hk
  have G := ChanG.of g
  obtain rfl := (conT_yes (by rw [okI, g, g2]; rfl) hm).trans hT.out
  clear hT g g2
  go_wp2_with fail
  refine (copyChannel_any w.heap.size 0 As cs s Ar cr r Ah ch h _ hX.c3 hls (hSs.below hB).all hlr (hSr.below hB).all hlh (hSh.below hB).all).mono ?_
  rintro e v3 ⟨A1, c1, A2, c2, A3, c3, rfl, hO, hb⟩
  have hz := hR.lt
  have hz3 := hb.size
  replace hB := Below.on' hB hb
  replace hR := hR.below hb
  clear b0 b1 b2 hb hX
  have hY := B3.new v3 (.slice A1 s.length c1) (.slice A2 r.length c2) (.slice A3 h.length c3) 26 _ rfl
  have k1 := hR.lt
  go_wp2_with fail
  refine (confirm_any v3.heap.size 0 v2.heap.size A1 c1 s A2 c2 r A3 c3 h _ hY.c3 (hO.alloc _) (by simp; omega) hz3 (dis_lt hO.o1.blk) (dis_lt hO.o2.blk) (dis_lt hO.o3.blk) hlr hlh k m hm).mono ?_
  rintro e v4 ⟨A', c', rfl, hC, hO', _, hb, _, _⟩
  replace hO := hO'
  clear hO'
  have hY := hC.b3
  have hzz := hC.lt
  replace hB := (hB.alloc hB.size (.cells #[.slice A1 s.length c1, .slice A2 r.length c2, .slice A3 h.length c3] 26)).trans (hb.mono (by omega))
  replace hR := (hR.alloc (.cells #[.slice A1 s.length c1, .slice A2 r.length c2, .slice A3 h.length c3] 26)).upto (by omega) hb
  clear hb hC k1
  obtain ⟨y0, y1, y2, _, _, _⟩ := id hY
  have k1 := hY.lt
  obtain ⟨k0, k1, k2, f0, f1, f2⟩ := id hR
  have hR' := ((hR.set0 (.slice A1 s.length c1)).set1 (.slice A2 r.length c2)).set2 (.slice A' (addM h m).length c')
  have hF : Fr (w.heap.size + 1) ((w.heap.size + 1) + 1) v4 (((v4.setCell ⟨(w.heap.size + 1), 0, none⟩ (.slice A1 s.length c1)).setCell ⟨(w.heap.size + 1), 1, none⟩ (.slice A2 r.length c2)).setCell ⟨(w.heap.size + 1), 2, none⟩ (.slice A' (addM h m).length c')) := (((Fr.refl _ _ _).setCell ⟨by simp, by simp⟩ _).setCell ⟨by simp, by simp⟩ _).setCell ⟨by simp, by simp⟩ _
  have hB' := hB.trans (hF.below (B := w.heap.size) (by omega) (by have := hB.size; omega))
  have hO' := (hO.far hF (by omega)).lift (b0 := w.heap.size) (by omega)
  obtain ⟨x0, x1, x2, _, _, _⟩ := id hR'
  go_wp2
  refine bodyPost_ret (by simp [results, Tryz.results14, go_sem, x0, x1, x2]; try rfl) rfl ?_
  exact ⟨A1, c1, A2, c2, A', c', rfl, hO', hB'⟩
set_option maxRecDepth 100000 in
set_option maxHeartbeats 8000000 in
theorem Confirm_specO (As : Option Addr) (cs : Nat) (s : List Msg) (Ar : Option Addr) (cr : Nat) (r : List Msg) (Ah : Option Addr) (ch : Nat) (h : List Msg) (i : Int) (w : World) (hls : s.length ≤ 1048576) (hms : ∀ y ∈ s, y.f.size ≤ 1048576 ∧ y.b.size ≤ 1048576) (hSs : Msgs w 0 w.heap.size As s) (hcs : s.length ≤ cs) (hlr : r.length ≤ 1048576) (hmr : ∀ y ∈ r, y.f.size ≤ 1048576 ∧ y.b.size ≤ 1048576) (hSr : Msgs w 0 w.heap.size Ar r) (hcr : r.length ≤ cr) (hlh : h.length ≤ 1048576) (hmh : ∀ y ∈ h, y.f.size ≤ 1048576 ∧ y.b.size ≤ 1048576) (hSh : Msgs w 0 w.heap.size Ah h) (hch : h.length ≤ ch) :
    Calls Tryz.prog 15 #[.agg #[.slice As s.length cs, .slice Ar r.length cr, .slice Ah h.length ch], .int .i64 i] w (RCO w (conT s r h i)) := by
  generalize hT : conT s r h i = t
  replace hT := Lib.hid hT
  have e1 : (w.alloc (.cells #[.slice As s.length cs, .slice Ar r.length cr, .slice Ah h.length ch] 26)).heap.size = w.heap.size + 1 := by simp
  have hX := (B3.new w (.slice As s.length cs) (.slice Ar r.length cr) (.slice Ah h.length ch) 26 _ rfl).alloc (.cells #[.slice none 0 0, .slice none 0 0, .slice none 0 0] 26)
  have hR := B3.new (w.alloc (.cells #[.slice As s.length cs, .slice Ar r.length cr, .slice Ah h.length ch] 26)) (.slice none 0 0) (.slice none 0 0) (.slice none 0 0) 26 (w.heap.size + 1) e1.symm
  obtain ⟨b0, b1, b2, _, _, _⟩ := id hX
  go_enter Tryz.func15, Tryz.ntmps15
  go_wp2_with fail
  refine (raGood_any As cs s Ar cr r Ah ch h _ hls hms ((hSs.alloc _).alloc _).all hcs hlr hmr ((hSr.alloc _).alloc _).all hcr hlh hmh ((hSh.alloc _).alloc _).all hch).mono ?_
  rintro e v1 ⟨rfl, hb⟩
  have hB : Below w.heap.size w v1 := Below.on' (by go_grown) hb
  replace hX := hX.below hb
  replace hR := hR.below hb
  clear b0 b1 b2 e1 hb
  obtain ⟨b0, b1, b2, _, _, _⟩ := id hX
  by_cases g : chanB s r h = true
  rotate_left
  · have g : chanB s r h = false := by simpa using g
    obtain rfl : chNo = t := (conT_no (by rw [okI, g]; rfl)).trans hT.out
    rw [g]
    obtain ⟨k0, k1, k2, f0, f1, f2⟩ := id hR
    have hR' := ((hR.set0 (.slice none 0 0)).set1 (.slice none 0 0)).set2 (.slice none 0 0)
    have hF : Fr (w.heap.size + 1) ((w.heap.size + 1) + 1) v1 (((v1.setCell ⟨(w.heap.size + 1), 0, none⟩ (.slice none 0 0)).setCell ⟨(w.heap.size + 1), 1, none⟩ (.slice none 0 0)).setCell ⟨(w.heap.size + 1), 2, none⟩ (.slice none 0 0)) := (((Fr.refl _ _ _).setCell ⟨by simp, by simp⟩ _).setCell ⟨by simp, by simp⟩ _).setCell ⟨by simp, by simp⟩ _
    have hB' := hB.trans (hF.below (B := w.heap.size) (by omega) (by have := hB.size; omega))
    have hI := fun W => OwnC.nil (w := W) (base := w.heap.size)
    obtain ⟨x0, x1, x2, _, _, _⟩ := id hR'
    go_wp2
    refine bodyPost_ret (by simp [results, Tryz.results15, go_sem, x0, x1, x2]; try rfl) rfl ?_
    exact ⟨none, 0, none, 0, none, 0, rfl, hI _, hB'⟩
  rw [g]
  go_wp2_with fail
  refine (l1In_any i 0 _ _).mono ?_
  rintro e v2 ⟨rfl, hb⟩
  replace hB := Below.on' hB hb
  replace hX := hX.below hb
  replace hR := hR.below hb
  clear b0 b1 b2 hb
  obtain ⟨b0, b1, b2, _, _, _⟩ := id hX
  by_cases g2 : inB i 0 ((r.length : Int) - 1) = true
  rotate_left
  · have g2 : inB i 0 ((r.length : Int) - 1) = false := by simpa using g2
    obtain rfl : chNo = t := (conT_no (by rw [okI, g, g2]; rfl)).trans hT.out
    rw [g2]
    obtain ⟨k0, k1, k2, f0, f1, f2⟩ := id hR
    have hR' := ((hR.set0 (.slice none 0 0)).set1 (.slice none 0 0)).set2 (.slice none 0 0)
    have hF : Fr (w.heap.size + 1) ((w.heap.size + 1) + 1) v2 (((v2.setCell ⟨(w.heap.size + 1), 0, none⟩ (.slice none 0 0)).setCell ⟨(w.heap.size + 1), 1, none⟩ (.slice none 0 0)).setCell ⟨(w.heap.size + 1), 2, none⟩ (.slice none 0 0)) := (((Fr.refl _ _ _).setCell ⟨by simp, by simp⟩ _).setCell ⟨by simp, by simp⟩ _).setCell ⟨by simp, by simp⟩ _
    have hB' := hB.trans (hF.below (B := w.heap.size) (by omega) (by have := hB.size; omega))
    have hI := fun W => OwnC.nil (w := W) (base := w.heap.size)
    obtain ⟨x0, x1, x2, _, _, _⟩ := id hR'
    go_wp2
    refine bodyPost_ret (by simp [results, Tryz.results15, go_sem, x0, x1, x2]; try rfl) rfl ?_
    exact ⟨none, 0, none, 0, none, 0, rfl, hI _, hB'⟩
  rw [g2]
  obtain ⟨k, rfl, hk⟩ := nat_of g2
  obtain ⟨m, hm, _⟩ := get_lt hk
  have G := ChanG.of g
  obtain rfl := (conT_yes (by rw [okI, g, g2]; rfl) hm).trans hT.out
  clear hT g g2
  go_wp2_with fail
  refine (raConfirm_any As cs s Ar cr r Ah ch h _ hls (hSs.below hB).all hlr (hSr.below hB).all hlh (hSh.below hB).all k m hm).mono ?_
  rw [addW_eq G.key G.hs (G.rs _ (List.mem_of_getElem? hm))]
  rintro e v3 ⟨A1, c1, A2, c2, A3, c3, rfl, hO, hb⟩
  have hz := hR.lt
  replace hB := Below.on' hB hb
  replace hR := hR.below hb
  clear b0 b1 b2 hb
  obtain ⟨k0, k1, k2, f0, f1, f2⟩ := id hR
  have hR' := ((hR.set0 (.slice A1 s.length c1)).set1 (.slice A2 r.length c2)).set2 (.slice A3 (addM h m).length c3)
  have hF : Fr (w.heap.size + 1) ((w.heap.size + 1) + 1) v3 (((v3.setCell ⟨(w.heap.size + 1), 0, none⟩ (.slice A1 s.length c1)).setCell ⟨(w.heap.size + 1), 1, none⟩ (.slice A2 r.length c2)).setCell ⟨(w.heap.size + 1), 2, none⟩ (.slice A3 (addM h m).length c3)) := (((Fr.refl _ _ _).setCell ⟨by simp, by simp⟩ _).setCell ⟨by simp, by simp⟩ _).setCell ⟨by simp, by simp⟩ _
  have hB' := hB.trans (hF.below (B := w.heap.size) (by omega) (by have := hB.size; omega))
  have hO' := (hO.far hF (by omega)).lift (b0 := w.heap.size) (by omega)
  obtain ⟨x0, x1, x2, _, _, _⟩ := id hR'
  go_wp2
  refine bodyPost_ret (by simp [results, Tryz.results15, go_sem, x0, x1, x2]; try rfl) rfl ?_
  exact ⟨A1, c1, A2, c2, A3, c3, rfl, hO', hB'⟩
end Go.Proofs.YtjmjilkpckbpeaaGreatDoor

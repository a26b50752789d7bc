/- The reference's steps on channels: one message delivered, one confirmed. Condition: at most 2^20 messages in each list. -/
import Derived.Test.YtacjdapfbmdddaaChanD
import Derived.Test.YtacjdapfbmdddaaChanI
namespace Go.Proofs.Ytacjdapfbmdddaa
open Go.RowKit

/-- A message added to a list if none there has its name and number. -/
def addW (l : List Msg) (m : Msg) : List Msg := if l.any (keyP m.f m.n) = true then l else l ++ [m]
set_option maxRecDepth 100000 in
set_option maxHeartbeats 8000000 in
theorem raDeliver_any (As : Option Addr) (cs : Nat) (s : List Msg) (Ar : Option Addr) (cr : Nat) (r : List Msg) (Ah : Option Addr) (ch : Nat) (h : List Msg) (w : World) (hls : s.length ≤ 1048576) (hSs : Msgs w 0 w.heap.size As s) (hlr : r.length ≤ 1048576) (hSr : Msgs w 0 w.heap.size Ar r) (hlh : h.length ≤ 1048576) (hSh : Msgs w 0 w.heap.size Ah h) (i : Nat) (m : Msg) (hm : s[i]? = some m) :
    Calls Try.prog 41 #[.agg #[.slice As s.length cs, .slice Ar r.length cr, .slice Ah h.length ch], .int .i64 i] w (RC w s (addW r m) h) := by
  obtain ⟨i0, hi0, hz0, hz1, hz2⟩ := info_parts Msg.info
  generalize hL : addW r m = L
  replace hL := Lib.hid hL
  have e1 : (w.alloc (.cells #[.slice As s.length cs, .slice Ar r.length cr, .slice Ah h.length ch] 26)).heap.size = w.heap.size + 1 := by simp
  have hlo : ((w.alloc (.cells #[.slice As s.length cs, .slice Ar r.length cr, .slice Ah h.length ch] 26)).alloc (.cells #[.slice none 0 0, .slice none 0 0, .slice none 0 0] 26)).heap.size = w.heap.size + 2 := by simp
  have hX := (B3.new w (.slice As s.length cs) (.slice Ar r.length cr) (.slice Ah h.length ch) 26 _ rfl).alloc (.cells #[.slice none 0 0, .slice none 0 0, .slice none 0 0] 26)
  have hR := B3.new (w.alloc (.cells #[.slice As s.length cs, .slice Ar r.length cr, .slice Ah h.length ch] 26)) (.slice none 0 0) (.slice none 0 0) (.slice none 0 0) 26 (w.heap.size + 1) e1.symm
  have hil : i < s.length := (List.getElem?_eq_some_iff.1 hm).1
  obtain ⟨b0, b1, b2, _, _, _⟩ := id hX
  go_enter Try.func41, Try.ntmps41
  go_wp2_with fail
  refine (raOwn_any As cs s Ar cr r Ah ch h _ hls ((hSs.alloc _).alloc _).all hlr ((hSr.alloc _).alloc _).all hlh ((hSh.alloc _).alloc _).all).mono ?_
  rintro e v1 ⟨A1, c1, A2, c2, A3, c3, rfl, hO, hb⟩
  have hB1 : Below w.heap.size w v1 := Below.on' (by go_grown) hb
  replace hX := hX.below hb
  replace hR := hR.below hb
  rw [hlo] at hO
  have hz1' : w.heap.size + 2 ≤ v1.heap.size := by have := hb.size; omega
  clear b0 b1 b2 e1 hlo hb
  obtain ⟨b0, b1, b2, _, _, _⟩ := id hX
  have hSx := (hSs.below hB1)
  obtain ⟨b, off, rfl, _, kb, _, hf⟩ := hSx.at_ hm
  have k1 : w.heap.size < v1.heap.size := by omega
  have k2 : b < v1.heap.size := by omega
  have d0 : v1.cell? ⟨b, off + i * 3, none⟩ = some (.string m.f) := (hf 0 _ rfl).1
  have d1 : v1.cell? ⟨b, off + i * 3 + 1, none⟩ = some (.int .i64 m.n) := (hf 1 _ rfl).1
  have d2 : v1.cell? ⟨b, off + i * 3 + 2, none⟩ = some (.string m.b) := (hf 2 _ rfl).1
  clear hf hSx hm
  have hBV : Below v1.heap.size v1 ((v1.alloc (.cells #[.slice A1 s.length c1, .slice A2 r.length c2, .slice A3 h.length c3] 26)).alloc (.cells #[.string m.f, .int .i64 m.n, .string m.b] 33)) := by go_grown
  have e2 : (v1.alloc (.cells #[.slice A1 s.length c1, .slice A2 r.length c2, .slice A3 h.length c3] 26)).heap.size = v1.heap.size + 1 := by simp
  have hY := (B3.new v1 (.slice A1 s.length c1) (.slice A2 r.length c2) (.slice A3 h.length c3) 26 _ rfl).alloc (.cells #[.string m.f, .int .i64 m.n, .string m.b] 33)
  have hM := B3.new (v1.alloc (.cells #[.slice A1 s.length c1, .slice A2 r.length c2, .slice A3 h.length c3] 26)) (.string m.f) (.int .i64 m.n) (.string m.b) 33 (v1.heap.size + 1) e2.symm
  go_wp2_with fail
  refine (raFind_any _ _ r m.f m.n _ hlr ((hSr.below hB1).below hBV).all).mono ?_
  rintro e v2 ⟨rfl, hb⟩
  have hB := (Below.on' hB1 hBV).trans (hb.mono (by have := hB1.size; simp; omega))
  have hd1 := dis_lt hO.o1.blk
  have hd2 := dis_lt hO.o2.blk
  have hd3 := dis_lt hO.o3.blk
  replace hX := (hX.below hBV).below hb
  replace hR := (hR.below hBV).below hb
  replace hY := hY.below hb
  replace hM := hM.below hb
  replace hO := (hO.below hBV).below hb
  have hz2' := hM.lt
  have k3 := hY.lt
  clear b0 b1 b2 d0 d1 d2 hB1 hBV hb e2 hX
  obtain ⟨y0, y1, y2, _, _, _⟩ := id hY
  rcases find_idx (keyP m.f m.n) r 0 with ⟨e1, hf⟩ | ⟨j, y, hj, e1, hf, hy⟩
  · rw [e1]
    have hA : Hid (r ++ [m] = L) := Lib.hid (by
      have := hL.out
      rw [addW, if_neg] at this
      · exact this
      · rw [← idxG_any, e1]; decide)
    clear hL e1 hf
    obtain ⟨g0, g1, g2, g3, g4, g5⟩ := id hM
    obtain ⟨_, _, _, f0, f1, f2⟩ := id hY
    go_wp2_with (at_builtin; refine wpList_append_one2 _ rfl (.tmp 23) (.tmp 25) _ rfl i0 _ _ Try.underlying24 hi0 hz0 hz1 hz2 rfl (by omega) Msg.len Msg.one m _ (hO.o2.alloc _) rfl rfl (new_cells _ _ _ _ rfl) (by unfold maxLen; first | omega | (simp; omega)) (by first | omega | (simp; omega)) (by simp; omega) ?_; intro A' c' w' L' hL' hOw hbw hbut hd; have hO3 := (hO.below ((Below.refl _ _).alloc (Nat.le_refl _) _)).push2 hOw hbut hd; have hY3 := (hY.alloc _).same (hbut _ (hY.alloc _).lt (fun a ha => hd2 a _ ha rfl)); have hR3 := (hR.alloc _).upto (by omega) hbw; have hB3 := (hB.alloc hB.size _).trans (hbw.mono (by omega)); have hdN := hd (some ⟨v1.heap.size, 0, none⟩) hd2 (fun a ha => by injection ha with ha; subst ha; simp; omega); have hFg : Fr v1.heap.size (v1.heap.size + 1) w' (w'.setCell ⟨v1.heap.size, 1, none⟩ (.slice A' L'.length c')) := (Fr.refl _ _ _).setCell ⟨by simp, by simp⟩ _; have hO4 := hO3.apart hFg hd1 hdN hd3; have hY4 := hY3.set1 (.slice A' L'.length c'); have hR4 := hR3.off (p := ⟨v1.heap.size, 1, none⟩) (by simp; omega) (.slice A' L'.length c'); have hB4 := hB3.trans (hFg.below (B := w.heap.size) (by omega) (by have := hB3.size; omega)); clear hO hY hR hB hO3 hB3 hFg hM hOw hbw hbut hd g0 g1 g2 g3 g4 g5 f0 f1 f2 y0 y1 y2; obtain ⟨g0, g1, g2, g3, g4, g5⟩ := id hY3; obtain ⟨y0, y1, y2, _, _, _⟩ := id hY4; obtain ⟨q0, q1, q2, q3, q4, q5⟩ := id hR3; have hR := hR4; have hB := hB4; have hO := hO4; clear hY3 hY4 hR3 hR4 hB4 hO4; obtain ⟨k0, k1, k2, f0, f1, f2⟩ := id hR; have hR' := ((hR.set0 (.slice A1 s.length c1)).set1 (.slice A' L'.length c')).set2 (.slice A3 h.length c3); have hF : Fr (w.heap.size + 1) ((w.heap.size + 1) + 1) (w'.setCell ⟨v1.heap.size, 1, none⟩ (.slice A' L'.length c')) ((((w'.setCell ⟨v1.heap.size, 1, none⟩ (.slice A' L'.length c')).setCell ⟨(w.heap.size + 1), 0, none⟩ (.slice A1 s.length c1)).setCell ⟨(w.heap.size + 1), 1, none⟩ (.slice A' L'.length c')).setCell ⟨(w.heap.size + 1), 2, none⟩ (.slice A3 h.length c3)) := (((Fr.refl _ _ _).setCell ⟨by simp, by simp⟩ _).setCell ⟨by simp, by simp⟩ _).setCell ⟨by simp, by simp⟩ _; have hB' := hB.trans (hF.below (B := w.heap.size) (by omega) (by have := hB.size; omega)); have hO' := (hO.far hF (by omega)).lift (b0 := w.heap.size) (by omega); obtain ⟨x0, x1, x2, _, _, _⟩ := id hR')
    obtain rfl : L' = L := hL'.out.trans hA.out
    refine bodyPost_ret (by simp [results, Try.results41, go_sem, x0, x1, x2]; try rfl) rfl ?_
    exact ⟨A1, c1, A', c', A3, c3, rfl, hO', hB'⟩
  · rw [e1]
    have hA : Hid (r = L) := Lib.hid (by
      have := hL.out
      rw [addW, if_pos] at this
      · exact this
      · exact List.any_eq_true.2 ⟨y, List.mem_of_getElem? hj, hy⟩)
    clear hL e1 hf hj hy
    obtain rfl := hA.out
    obtain ⟨k0, k1, k2, f0, f1, f2⟩ := id hR
    have hR' := ((hR.set0 (.slice A1 s.length c1)).set1 (.slice A2 r.length c2)).set2 (.slice A3 h.length c3)
    have hF : Fr (w.heap.size + 1) ((w.heap.size + 1) + 1) v2 (((v2.setCell ⟨(w.heap.size + 1), 0, none⟩ (.slice A1 s.length c1)).setCell ⟨(w.heap.size + 1), 1, none⟩ (.slice A2 r.length c2)).setCell ⟨(w.heap.size + 1), 2, none⟩ (.slice A3 h.length c3)) := (((Fr.refl _ _ _).setCell ⟨by simp, by simp⟩ _).setCell ⟨by simp, by simp⟩ _).setCell ⟨by simp, by simp⟩ _
    have hB' := hB.trans (hF.below (B := w.heap.size) (by omega) (by have := hB.size; omega))
    have hO' := (hO.far hF (by omega)).lift (b0 := w.heap.size) (by omega)
    obtain ⟨x0, x1, x2, _, _, _⟩ := id hR'
    go_wp2
    refine bodyPost_ret (by simp [results, Try.results41, go_sem, x0, x1, x2]; try rfl) rfl ?_
    exact ⟨A1, c1, A2, c2, A3, c3, rfl, hO', hB'⟩
set_option maxRecDepth 100000 in
set_option maxHeartbeats 8000000 in
theorem raConfirm_any (As : Option Addr) (cs : Nat) (s : List Msg) (Ar : Option Addr) (cr : Nat) (r : List Msg) (Ah : Option Addr) (ch : Nat) (h : List Msg) (w : World) (hls : s.length ≤ 1048576) (hSs : Msgs w 0 w.heap.size As s) (hlr : r.length ≤ 1048576) (hSr : Msgs w 0 w.heap.size Ar r) (hlh : h.length ≤ 1048576) (hSh : Msgs w 0 w.heap.size Ah h) (i : Nat) (m : Msg) (hm : r[i]? = some m) :
    Calls Try.prog 42 #[.agg #[.slice As s.length cs, .slice Ar r.length cr, .slice Ah h.length ch], .int .i64 i] w (RC w s r (addW h m)) := by
  obtain ⟨i0, hi0, hz0, hz1, hz2⟩ := info_parts Msg.info
  generalize hL : addW h m = L
  replace hL := Lib.hid hL
  have e1 : (w.alloc (.cells #[.slice As s.length cs, .slice Ar r.length cr, .slice Ah h.length ch] 26)).heap.size = w.heap.size + 1 := by simp
  have hlo : ((w.alloc (.cells #[.slice As s.length cs, .slice Ar r.length cr, .slice Ah h.length ch] 26)).alloc (.cells #[.slice none 0 0, .slice none 0 0, .slice none 0 0] 26)).heap.size = w.heap.size + 2 := by simp
  have hX := (B3.new w (.slice As s.length cs) (.slice Ar r.length cr) (.slice Ah h.length ch) 26 _ rfl).alloc (.cells #[.slice none 0 0, .slice none 0 0, .slice none 0 0] 26)
  have hR := B3.new (w.alloc (.cells #[.slice As s.length cs, .slice Ar r.length cr, .slice Ah h.length ch] 26)) (.slice none 0 0) (.slice none 0 0) (.slice none 0 0) 26 (w.heap.size + 1) e1.symm
  have hil : i < r.length := (List.getElem?_eq_some_iff.1 hm).1
  obtain ⟨b0, b1, b2, _, _, _⟩ := id hX
  go_enter Try.func42, Try.ntmps42
  go_wp2_with fail
  refine (raOwn_any As cs s Ar cr r Ah ch h _ hls ((hSs.alloc _).alloc _).all hlr ((hSr.alloc _).alloc _).all hlh ((hSh.alloc _).alloc _).all).mono ?_
  rintro e v1 ⟨A1, c1, A2, c2, A3, c3, rfl, hO, hb⟩
  have hB1 : Below w.heap.size w v1 := Below.on' (by go_grown) hb
  replace hX := hX.below hb
  replace hR := hR.below hb
  rw [hlo] at hO
  have hz1' : w.heap.size + 2 ≤ v1.heap.size := by have := hb.size; omega
  clear b0 b1 b2 e1 hlo hb
  obtain ⟨b0, b1, b2, _, _, _⟩ := id hX
  have hSx := (hSr.below hB1)
  obtain ⟨b, off, rfl, _, kb, _, hf⟩ := hSx.at_ hm
  have k1 : w.heap.size < v1.heap.size := by omega
  have k2 : b < v1.heap.size := by omega
  have d0 : v1.cell? ⟨b, off + i * 3, none⟩ = some (.string m.f) := (hf 0 _ rfl).1
  have d1 : v1.cell? ⟨b, off + i * 3 + 1, none⟩ = some (.int .i64 m.n) := (hf 1 _ rfl).1
  have d2 : v1.cell? ⟨b, off + i * 3 + 2, none⟩ = some (.string m.b) := (hf 2 _ rfl).1
  clear hf hSx hm
  have hBV : Below v1.heap.size v1 ((v1.alloc (.cells #[.slice A1 s.length c1, .slice A2 r.length c2, .slice A3 h.length c3] 26)).alloc (.cells #[.string m.f, .int .i64 m.n, .string m.b] 33)) := by go_grown
  have e2 : (v1.alloc (.cells #[.slice A1 s.length c1, .slice A2 r.length c2, .slice A3 h.length c3] 26)).heap.size = v1.heap.size + 1 := by simp
  have hY := (B3.new v1 (.slice A1 s.length c1) (.slice A2 r.length c2) (.slice A3 h.length c3) 26 _ rfl).alloc (.cells #[.string m.f, .int .i64 m.n, .string m.b] 33)
  have hM := B3.new (v1.alloc (.cells #[.slice A1 s.length c1, .slice A2 r.length c2, .slice A3 h.length c3] 26)) (.string m.f) (.int .i64 m.n) (.string m.b) 33 (v1.heap.size + 1) e2.symm
  go_wp2_with fail
  refine (raFind_any _ _ h m.f m.n _ hlh ((hSh.below hB1).below hBV).all).mono ?_
  rintro e v2 ⟨rfl, hb⟩
  have hB := (Below.on' hB1 hBV).trans (hb.mono (by have := hB1.size; simp; omega))
  have hd1 := dis_lt hO.o1.blk
  have hd2 := dis_lt hO.o2.blk
  have hd3 := dis_lt hO.o3.blk
  replace hX := (hX.below hBV).below hb
  replace hR := (hR.below hBV).below hb
  replace hY := hY.below hb
  replace hM := hM.below hb
  replace hO := (hO.below hBV).below hb
  have hz2' := hM.lt
  have k3 := hY.lt
  clear b0 b1 b2 d0 d1 d2 hB1 hBV hb e2 hX
  obtain ⟨y0, y1, y2, _, _, _⟩ := id hY
  rcases find_idx (keyP m.f m.n) h 0 with ⟨e1, hf⟩ | ⟨j, y, hj, e1, hf, hy⟩
  · rw [e1]
    have hA : Hid (h ++ [m] = L) := Lib.hid (by
      have := hL.out
      rw [addW, if_neg] at this
      · exact this
      · rw [← idxG_any, e1]; decide)
    clear hL e1 hf
    obtain ⟨g0, g1, g2, g3, g4, g5⟩ := id hM
    obtain ⟨_, _, _, f0, f1, f2⟩ := id hY
    go_wp2_with (at_builtin; refine wpList_append_one2 _ rfl (.tmp 23) (.tmp 25) _ rfl i0 _ _ Try.underlying24 hi0 hz0 hz1 hz2 rfl (by omega) Msg.len Msg.one m _ (hO.o3.alloc _) rfl rfl (new_cells _ _ _ _ rfl) (by unfold maxLen; first | omega | (simp; omega)) (by first | omega | (simp; omega)) (by simp; omega) ?_; intro A' c' w' L' hL' hOw hbw hbut hd; have hO3 := (hO.below ((Below.refl _ _).alloc (Nat.le_refl _) _)).push3 hOw hbut hd; have hY3 := (hY.alloc _).same (hbut _ (hY.alloc _).lt (fun a ha => hd3 a _ ha rfl)); have hR3 := (hR.alloc _).upto (by omega) hbw; have hB3 := (hB.alloc hB.size _).trans (hbw.mono (by omega)); have hdN := hd (some ⟨v1.heap.size, 0, none⟩) hd3 (fun a ha => by injection ha with ha; subst ha; simp; omega); have hFg : Fr v1.heap.size (v1.heap.size + 1) w' (w'.setCell ⟨v1.heap.size, 2, none⟩ (.slice A' L'.length c')) := (Fr.refl _ _ _).setCell ⟨by simp, by simp⟩ _; have hO4 := hO3.apart hFg hd1 hd2 hdN; have hY4 := hY3.set2 (.slice A' L'.length c'); have hR4 := hR3.off (p := ⟨v1.heap.size, 2, none⟩) (by simp; omega) (.slice A' L'.length c'); have hB4 := hB3.trans (hFg.below (B := w.heap.size) (by omega) (by have := hB3.size; omega)); clear hO hY hR hB hO3 hB3 hFg hM hOw hbw hbut hd g0 g1 g2 g3 g4 g5 f0 f1 f2 y0 y1 y2; obtain ⟨g0, g1, g2, g3, g4, g5⟩ := id hY3; obtain ⟨y0, y1, y2, _, _, _⟩ := id hY4; obtain ⟨q0, q1, q2, q3, q4, q5⟩ := id hR3; have hR := hR4; have hB := hB4; have hO := hO4; clear hY3 hY4 hR3 hR4 hB4 hO4; obtain ⟨k0, k1, k2, f0, f1, f2⟩ := id hR; have hR' := ((hR.set0 (.slice A1 s.length c1)).set1 (.slice A2 r.length c2)).set2 (.slice A' L'.length c'); have hF : Fr (w.heap.size + 1) ((w.heap.size + 1) + 1) (w'.setCell ⟨v1.heap.size, 2, none⟩ (.slice A' L'.length c')) ((((w'.setCell ⟨v1.heap.size, 2, none⟩ (.slice A' L'.length c')).setCell ⟨(w.heap.size + 1), 0, none⟩ (.slice A1 s.length c1)).setCell ⟨(w.heap.size + 1), 1, none⟩ (.slice A2 r.length c2)).setCell ⟨(w.heap.size + 1), 2, none⟩ (.slice A' L'.length c')) := (((Fr.refl _ _ _).setCell ⟨by simp, by simp⟩ _).setCell ⟨by simp, by simp⟩ _).setCell ⟨by simp, by simp⟩ _; have hB' := hB.trans (hF.below (B := w.heap.size) (by omega) (by have := hB.size; omega)); have hO' := (hO.far hF (by omega)).lift (b0 := w.heap.size) (by omega); obtain ⟨x0, x1, x2, _, _, _⟩ := id hR')
    obtain rfl : L' = L := hL'.out.trans hA.out
    refine bodyPost_ret (by simp [results, Try.results42, go_sem, x0, x1, x2]; try rfl) rfl ?_
    exact ⟨A1, c1, A2, c2, A', c', rfl, hO', hB'⟩
  · rw [e1]
    have hA : Hid (h = L) := Lib.hid (by
      have := hL.out
      rw [addW, if_pos] at this
      · exact this
      · exact List.any_eq_true.2 ⟨y, List.mem_of_getElem? hj, hy⟩)
    clear hL e1 hf hj hy
    obtain rfl := hA.out
    obtain ⟨k0, k1, k2, f0, f1, f2⟩ := id hR
    have hR' := ((hR.set0 (.slice A1 s.length c1)).set1 (.slice A2 r.length c2)).set2 (.slice A3 h.length c3)
    have hF : Fr (w.heap.size + 1) ((w.heap.size + 1) + 1) v2 (((v2.setCell ⟨(w.heap.size + 1), 0, none⟩ (.slice A1 s.length c1)).setCell ⟨(w.heap.size + 1), 1, none⟩ (.slice A2 r.length c2)).setCell ⟨(w.heap.size + 1), 2, none⟩ (.slice A3 h.length c3)) := (((Fr.refl _ _ _).setCell ⟨by simp, by simp⟩ _).setCell ⟨by simp, by simp⟩ _).setCell ⟨by simp, by simp⟩ _
    have hB' := hB.trans (hF.below (B := w.heap.size) (by omega) (by have := hB.size; omega))
    have hO' := (hO.far hF (by omega)).lift (b0 := w.heap.size) (by omega)
    obtain ⟨x0, x1, x2, _, _, _⟩ := id hR'
    go_wp2
    refine bodyPost_ret (by simp [results, Try.results42, go_sem, x0, x1, x2]; try rfl) rfl ?_
    exact ⟨A1, c1, A2, c2, A3, c3, rfl, hO', hB'⟩
end Go.Proofs.Ytacjdapfbmdddaa

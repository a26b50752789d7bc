/- Sending a message and running a plan, the program: the channel's rows are the call's own. Conditions: at most 2^20 in each list, texts of at most 2^20. -/
import Derived.Test.YtjmjilkpckbpeaaGreatDoorSndC
import Derived.Test.YtjmjilkpckbpeaaGreatDoorLD
namespace Go.Proofs.YtjmjilkpckbpeaaGreatDoor
open Go.RowKit

set_option maxRecDepth 100000 in
set_option maxHeartbeats 8000000 in
theorem sendMessage_anyO (pb po : Nat) (As : Option Addr) (cs : Nat) (s : List Msg) (Ar : Option Addr) (cr : Nat) (r : List Msg) (Ah : Option Addr) (ch : Nat) (h : List Msg) (f b : ByteArray) (w : World) (hX : C3 pb po (.slice As s.length cs) (.slice Ar r.length cr) (.slice Ah h.length ch) w) (hls : s.length ≤ 1048576) (hSs : Msgs w 0 w.heap.size As s) (hlr : r.length ≤ 1048576) (hSr : Msgs w 0 w.heap.size Ar r) (hlh : h.length ≤ 1048576) (hSh : Msgs w 0 w.heap.size Ah h) :
    Calls Tryz.prog 103 #[.pointer (some ⟨pb, po, none⟩), .string f, .string b] w (RCO w (sndU s r h f b)) := by
  obtain ⟨i0, hi0, hz0, hz1, hz2⟩ := info_parts Msg.info
  generalize hT : sndU s r h f b = t
  replace hT := Lib.hid hT
  have hR0 := B3.new w (.slice none 0 0) (.slice none 0 0) (.slice none 0 0) 26 _ rfl
  have hX0 := hX.alloc (.cells #[.slice none 0 0, .slice none 0 0, .slice none 0 0] 26)
  have hB0 : Below w.heap.size w (w.alloc (.cells #[.slice none 0 0, .slice none 0 0, .slice none 0 0] 26)) := by go_grown
  obtain ⟨b0, b1, b2, _, _, _⟩ := id hX0
  have hpb := hX.lt
  go_enter Tryz.func103, Tryz.ntmps103
  go_wp2_with fail
  go_loopw [8, 17] (fun o i wr => ∃ (k : Nat) (v : Int), k ≤ s.length ∧ i = .int .i64 k ∧ o = .int .i64 v ∧ 1 ≤ v ∧ v ≤ k + 1 ∧ Hid (v = cntM (s.take k) f + 1) ∧ C3 pb po (.slice As s.length cs) (.slice Ar r.length cr) (.slice Ah h.length ch) wr ∧ B3 w.heap.size (.slice none 0 0) (.slice none 0 0) (.slice none 0 0) wr ∧ Below w.heap.size w wr) (fun _ i _ => s.length - (intOf i).toNat)
  case atStart => exact ⟨0, 1, Nat.zero_le _, rfl, rfl, by omega, by omega, Lib.hid (by simp [cntM]), hX0, hR0, hB0⟩
  case round =>
    obtain ⟨k, v, hk, rfl, rfl, hv0, hv1, HF, hX, hR, hB⟩ := hrel
    clear hX0 b0 b1 b2 hR0 hB0
    have hz := hB.size
    by_cases hlt : k < s.length
    · obtain ⟨x, hx, _⟩ := get_lt hlt
      have HC := Lib.hid (cntM_step hx f)
      obtain ⟨b', off, rfl, _, kb, _, hf⟩ := (hSs.below hB).at_ hx
      have c0 : wr.cell? ⟨b', off + k * 3, none⟩ = some (.string x.f) := (hf 0 _ rfl).1
      have c1 : wr.cell? ⟨b', off + k * 3 + 1, none⟩ = some (.int .i64 x.n) := (hf 1 _ rfl).1
      have c2 : wr.cell? ⟨b', off + k * 3 + 2, none⟩ = some (.string x.b) := (hf 2 _ rfl).1
      clear hf hx
      replace hX := hX.alloc (.cells #[.string x.f, .int .i64 x.n, .string x.b] 33)
      replace hR := hR.alloc (.cells #[.string x.f, .int .i64 x.n, .string x.b] 33)
      by_cases q : x.f.toList = f.toList
      · have HD : Hid (v + 1 = cntM (s.take (k + 1)) f + 1) := Lib.hid (by rw [HC.out, HF.out, if_pos q])
        clear HC HF
        go_wp2
        go_roundw
        case rel => exact ⟨k + 1, v + 1, by omega, by go_num, by go_num, by omega, by omega, HD, hX, hR, by go_grown⟩
        case measure => simp [intOf]; omega
      · have HD : Hid (v = cntM (s.take (k + 1)) f + 1) := Lib.hid (by rw [HC.out, HF.out, if_neg q]; simp)
        have qb : (x.f.toList == f.toList) = false := by simpa using q
        clear HC HF q
        go_wp2
        go_roundw
        case rel => exact ⟨k + 1, v, by omega, by go_num, by go_num, by omega, by omega, HD, hX, hR, by go_grown⟩
        case measure => simp [intOf]; omega
    · obtain rfl : k = s.length := by omega
      rw [List.take_length] at HF
      obtain ⟨b0, b1, b2, _, _, _⟩ := id hX
      by_cases g4 : s.length = 30
      · have g4' : (s.length : Int) = 30 := by omega
        obtain rfl : chNo = t := by rw [← hT.out, sndU, if_pos g4]
        clear hT g4
        obtain ⟨k0, k1, k2, f0, f1, f2⟩ := id hR
        have hR' := ((hR.set0 (.slice none 0 0)).set1 (.slice none 0 0)).set2 (.slice none 0 0)
        have hF : Fr w.heap.size (w.heap.size + 1) wr (((wr.setCell ⟨w.heap.size, 0, none⟩ (.slice none 0 0)).setCell ⟨w.heap.size, 1, none⟩ (.slice none 0 0)).setCell ⟨w.heap.size, 2, none⟩ (.slice none 0 0)) := (((Fr.refl _ _ _).setCell ⟨by simp, by simp⟩ _).setCell ⟨by simp, by simp⟩ _).setCell ⟨by simp, by simp⟩ _
        have hB' := hB.trans (hF.below (B := w.heap.size) (by omega) (by have := hB.size; omega))
        have hI := fun W => OwnC.nil (w := W) (base := w.heap.size)
        obtain ⟨x0, x1, x2, _, _, _⟩ := id hR'
        go_wp2
        refine bodyPost_ret (by simp [results, Tryz.results103, go_sem, x0, x1, x2]; try rfl) rfl ?_
        exact ⟨none, 0, none, 0, none, 0, rfl, hI _, hB'⟩
      have g4' : ((s.length : Int) == 30) = false := by simp; omega
      have g4'n := g4
      have hzz := hR.lt
      go_wp2_with fail
      refine (copyChannel_any pb po As cs s Ar cr r Ah ch h _ hX hls (hSs.below hB).all hlr (hSr.below hB).all hlh (hSh.below hB).all).mono ?_
      rintro e v1 ⟨A1, c1, A2, c2, A3, c3, rfl, hO, hb⟩
      have hz4 := hb.size
      replace hB := (Below.on' hB hb)
      replace hR := hR.below hb
      clear b0 b1 b2 hb hX
      have hY := B3.new v1 (.slice A1 s.length c1) (.slice A2 r.length c2) (.slice A3 h.length c3) 26 _ rfl
      have hd1 := dis_lt hO.o1.blk
      have hd2 := dis_lt hO.o2.blk
      have hd3 := dis_lt hO.o3.blk
      replace hR := hR.alloc (.cells #[.slice A1 s.length c1, .slice A2 r.length c2, .slice A3 h.length c3] 26)
      replace hB := hB.alloc hB.size (.cells #[.slice A1 s.length c1, .slice A2 r.length c2, .slice A3 h.length c3] 26)
      replace hO := hO.alloc (.cells #[.slice A1 s.length c1, .slice A2 r.length c2, .slice A3 h.length c3] 26)
      have e1 : (v1.alloc (.cells #[.slice A1 s.length c1, .slice A2 r.length c2, .slice A3 h.length c3] 26)).heap.size = v1.heap.size + 1 := by simp
      obtain ⟨y0, y1, y2, f0, f1, f2⟩ := id hY
      obtain ⟨g0, g1, g2, g3, g4, g5⟩ := id hR
      go_wp2_with (at_builtin; refine wpList_append_one2 _ rfl (.tmp 38) (.tmp 43) _ rfl i0 _ _ Tryz.underlying24 hi0 hz0 hz1 hz2 rfl (by omega) Msg.len Msg.one ⟨f, v, b⟩ _ (hO.o1.alloc _) rfl rfl (new_cells_at _ _ _ _ _ (by simp) rfl) (by unfold maxLen; first | omega | (simp; omega)) (by first | omega | (simp; omega)) (by simp; omega) ?_; intro A' c' w' L' hL' hOw hbw hbut hd; have hO3 := (hO.below ((Below.refl _ _).alloc (Nat.le_refl _) _)).push1 hOw hbut hd; have hY3 := (hY.alloc _).same (hbut _ (hY.alloc _).lt (fun a ha => hd1 a _ ha rfl)); have hR3 := (hR.alloc _).upto (by omega) hbw; have hB3 := (hB.alloc hB.size _).trans (hbw.mono (by omega)); have hdN := hd (some ⟨v1.heap.size, 0, none⟩) hd1 (fun a ha => by injection ha with ha; subst ha; simp; omega); have hFg : Fr v1.heap.size (v1.heap.size + 1) w' (w'.setCell ⟨v1.heap.size, 0, none⟩ (.slice A' L'.length c')) := (Fr.refl _ _ _).setCell ⟨by simp, by simp⟩ _; have hO4 := hO3.apart hFg hdN hd2 hd3; have hY4 := hY3.set0 (.slice A' L'.length c'); have hR4 := hR3.off (p := ⟨v1.heap.size, 0, none⟩) (by simp; omega) (.slice A' L'.length c'); have hB4 := hB3.trans (hFg.below (B := w.heap.size) (by omega) (by have := hB3.size; omega)); clear hO hY hR hB hO3 hB3 hFg hOw hbw hbut hd g0 g1 g2 g3 g4 g5 f0 f1 f2 y0 y1 y2; obtain ⟨g0, g1, g2, g3, g4, g5⟩ := id hY3; obtain ⟨y0, y1, y2, _, _, _⟩ := id hY4; obtain ⟨q0, q1, q2, q3, q4, q5⟩ := id hR3; have hR := hR4; have hB := hB4; have hO := hO4; clear hY3 hY4 hR3 hR4 hB4 hO4; obtain ⟨k0, k1, k2, f0, f1, f2⟩ := id hR; have hR' := ((hR.set0 (.slice A' L'.length c')).set1 (.slice A2 r.length c2)).set2 (.slice A3 h.length c3); have hF : Fr w.heap.size (w.heap.size + 1) (w'.setCell ⟨v1.heap.size, 0, none⟩ (.slice A' L'.length c')) ((((w'.setCell ⟨v1.heap.size, 0, none⟩ (.slice A' L'.length c')).setCell ⟨w.heap.size, 0, none⟩ (.slice A' L'.length c')).setCell ⟨w.heap.size, 1, none⟩ (.slice A2 r.length c2)).setCell ⟨w.heap.size, 2, none⟩ (.slice A3 h.length c3)) := (((Fr.refl _ _ _).setCell ⟨by simp, by simp⟩ _).setCell ⟨by simp, by simp⟩ _).setCell ⟨by simp, by simp⟩ _; have hB' := hB.trans (hF.below (B := w.heap.size) (by omega) (by have := hB.size; omega)); have hO' := (hO.far hF (by omega)).lift (b0 := w.heap.size) (by omega); obtain ⟨x0, x1, x2, _, _, _⟩ := id hR')
      obtain rfl : ((L', r, h), true) = t := by rw [hL'.out, ← hT.out, sndU, if_neg g4'n, HF.out]
      refine bodyPost_ret (by simp [results, Tryz.results103, go_sem, x0, x1, x2]; try rfl) rfl ?_
      exact ⟨A', c', A2, c2, A3, c3, rfl, hO', hB'⟩
end Go.Proofs.YtjmjilkpckbpeaaGreatDoor

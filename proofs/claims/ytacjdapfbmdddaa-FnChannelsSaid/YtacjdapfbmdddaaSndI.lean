/- Sending a message and running a plan, the program: the channel's rows are the call's own. Conditions: at most 2^20 in each list, texts of at most 2^20. -/
import Derived.Test.YtacjdapfbmdddaaSndC
import Derived.Test.YtacjdapfbmdddaaChanK
namespace Go.Proofs.Ytacjdapfbmdddaa
open Go.RowKit

set_option maxRecDepth 100000 in
set_option maxHeartbeats 8000000 in
theorem sendMessage_anyO (pb po : Nat) (As : Option Addr) (cs : Nat) (s : List Msg) (Ar : Option Addr) (cr : Nat) (r : List Msg) (Ah : Option Addr) (ch : Nat) (h : List Msg) (f b : ByteArray) (w : World) (hX : C3 pb po (.slice As s.length cs) (.slice Ar r.length cr) (.slice Ah h.length ch) w) (hls : s.length ≤ 1048576) (hSs : Msgs w 0 w.heap.size As s) (hlr : r.length ≤ 1048576) (hSr : Msgs w 0 w.heap.size Ar r) (hlh : h.length ≤ 1048576) (hSh : Msgs w 0 w.heap.size Ah h) :
    Calls Try.prog 27 #[.pointer (some ⟨pb, po, none⟩), .string f, .string b] w (RCO w (sndU s r h f b)) := by
  obtain ⟨i0, hi0, hz0, hz1, hz2⟩ := info_parts Msg.info
  generalize hT : sndU s r h f b = t
  replace hT := Lib.hid hT
  have hR0 := B3.new w (.slice none 0 0) (.slice none 0 0) (.slice none 0 0) 26 _ rfl
  have hX0 := hX.alloc (.cells #[.slice none 0 0, .slice none 0 0, .slice none 0 0] 26)
  have hB0 : Below w.heap.size w (w.alloc (.cells #[.slice none 0 0, .slice none 0 0, .slice none 0 0] 26)) := by go_grown
  obtain ⟨b0, b1, b2, _, _, _⟩ := id hX0
  have hpb := hX.lt
  go_enter Try.func27, Try.ntmps27
  go_wp2_with fail
  go_loopw [8, 17] (fun o i wr => ∃ (k : Nat) (v : Int), k ≤ s.length ∧ i = .int .i64 k ∧ o = .int .i64 v ∧ 1 ≤ v ∧ v ≤ k + 1 ∧ Hid (v = cntM (s.take k) f + 1) ∧ C3 pb po (.slice As s.length cs) (.slice Ar r.length cr) (.slice Ah h.length ch) wr ∧ B3 w.heap.size (.slice none 0 0) (.slice none 0 0) (.slice none 0 0) wr ∧ Below w.heap.size w wr) (fun _ i _ => s.length - (intOf i).toNat)
  case atStart => exact ⟨0, 1, Nat.zero_le _, rfl, rfl, by omega, by omega, Lib.hid (by simp [cntM]), hX0, hR0, hB0⟩
  case round =>
    obtain ⟨k, v, hk, rfl, rfl, hv0, hv1, HF, hX, hR, hB⟩ := hrel
    clear hX0 b0 b1 b2 hR0 hB0
    have hz := hB.size
    by_cases hlt : k < s.length
    · obtain ⟨x, hx, _⟩ := get_lt hlt
      have HC := Lib.hid (cntM_step hx f)
      obtain ⟨b', off, rfl, _, kb, _, hf⟩ := (hSs.below hB).at_ hx
      have c0 : wr.cell? ⟨b', off + k * 3, none⟩ = some (.string x.f) := (hf 0 _ rfl).1
      have c1 : wr.cell? ⟨b', off + k * 3 + 1, none⟩ = some (.int .i64 x.n) := (hf 1 _ rfl).1
      have c2 : wr.cell? ⟨b', off + k * 3 + 2, none⟩ = some (.string x.b) := (hf 2 _ rfl).1
      clear hf hx
      replace hX := hX.alloc (.cells #[.string x.f, .int .i64 x.n, .string x.b] 33)
      replace hR := hR.alloc (.cells #[.string x.f, .int .i64 x.n, .string x.b] 33)
      by_cases q : x.f.toList = f.toList
      · have HD : Hid (v + 1 = cntM (s.take (k + 1)) f + 1) := Lib.hid (by rw [HC.out, HF.out, if_pos q])
        clear HC HF
        go_wp2
        go_roundw
        case rel => exact ⟨k + 1, v + 1, by omega, by go_num, by go_num, by omega, by omega, HD, hX, hR, by go_grown⟩
        case measure => simp [intOf]; omega
      · have HD : Hid (v = cntM (s.take (k + 1)) f + 1) := Lib.hid (by rw [HC.out, HF.out, if_neg q]; simp)
        have qb : (x.f.toList == f.toList) = false := by simpa using q
        clear HC HF q
        go_wp2
        go_roundw
        case rel => exact ⟨k + 1, v, by omega, by go_num, by go_num, by omega, by omega, HD, hX, hR, by go_grown⟩
        case measure => simp [intOf]; omega
    · obtain rfl : k = s.length := by omega
      rw [List.take_length] at HF
      obtain ⟨b0, b1, b2, _, _, _⟩ := id hX
      by_cases g4 : s.length = 30
      · have g4' : (s.length : Int) = 30 := by omega
        obtain rfl : chNo = t := by rw [← hT.out, sndU, if_pos g4]
        clear hT g4
        obtain ⟨k0, k1, k2, f0, f1, f2⟩ := id hR
        have hR' := ((hR.set0 (.slice none 0 0)).set1 (.slice none 0 0)).set2 (.slice none 0 0)
        have hF : Fr w.heap.size (w.heap.size + 1) wr (((wr.setCell ⟨w.heap.size, 0, none⟩ (.slice none 0 0)).setCell ⟨w.heap.size, 1, none⟩ (.slice none 0 0)).setCell ⟨w.heap.size, 2, none⟩ (.slice none 0 0)) := (((Fr.refl _ _ _).setCell ⟨by simp, by simp⟩ _).setCell ⟨by simp, by simp⟩ _).setCell ⟨by simp, by simp⟩ _
        have hB' := hB.trans (hF.below (B := w.heap.size) (by omega) (by have := hB.size; omega))
        have hI := fun W => OwnC.nil (w := W) (base := w.heap.size)
        obtain ⟨x0, x1, x2, _, _, _⟩ := id hR'
        go_wp2
        refine bodyPost_ret (by simp [results, Try.results27, go_sem, x0, x1, x2]; try rfl) rfl ?_
        exact ⟨none, 0, none, 0, none, 0, rfl, hI _, hB'⟩
      have g4' : ((s.length : Int) == 30) = false := by simp; omega
      have g4'n := g4
      have hzz := hR.lt
      go_wp2_with fail
      refine (copyChannel_any pb po As cs s Ar cr r Ah ch h _ hX hls (hSs.below hB).all hlr (hSr.below hB).all hlh (hSh.below hB).all).mono ?_
      rintro e v1 ⟨A1, c1, A2, c2, A3, c3, rfl, hO, hb⟩
      have hz4 := hb.size
      replace hB := (Below.on' hB hb)
      replace hR := hR.below hb
      clear b0 b1 b2 hb hX
      have hY := B3.new v1 (.slice A1 s.length c1) (.slice A2 r.length c2) (.slice A3 h.length c3) 26 _ rfl
      have hd1 := dis_lt hO.o1.blk
      have hd2 := dis_lt hO.o2.blk
      have hd3 := dis_lt hO.o3.blk
      replace hR := hR.alloc (.cells #[.slice A1 s.length c1, .slice A2 r.length c2, .slice A3 h.length c3] 26)
      replace hB := hB.alloc hB.size (.cells #[.slice A1 s.length c1, .slice A2 r.length c2, .slice A3 h.length c3] 26)
      replace hO := hO.alloc (.cells #[.slice A1 s.length c1, .slice A2 r.length c2, .slice A3 h.length c3] 26)
      have e1 : (v1.alloc (.cells #[.slice A1 s.length c1, .slice A2 r.length c2, .slice A3 h.length c3] 26)).heap.size = v1.heap.size + 1 := by simp
      obtain ⟨y0, y1, y2, f0, f1, f2⟩ := id hY
      obtain ⟨g0, g1, g2, g3, g4, g5⟩ := id hR
      go_wp2_with (at_builtin; refine wpList_append_one2 _ rfl (.tmp 38) (.tmp 43) _ rfl i0 _ _ Try.underlying24 hi0 hz0 hz1 hz2 rfl (by omega) Msg.len Msg.one ⟨f, v, b⟩ _ (hO.o1.alloc _) rfl rfl (new_cells_at _ _ _ _ _ (by simp) rfl) (by unfold maxLen; first | omega | (simp; omega)) (by first | omega | (simp; omega)) (by simp; omega) ?_; intro A' c' w' L' hL' hOw hbw hbut hd; have hO3 := (hO.below ((Below.refl _ _).alloc (Nat.le_refl _) _)).push1 hOw hbut hd; have hY3 := (hY.alloc _).same (hbut _ (hY.alloc _).lt (fun a ha => hd1 a _ ha rfl)); have hR3 := (hR.alloc _).upto (by omega) hbw; have hB3 := (hB.alloc hB.size _).trans (hbw.mono (by omega)); have hdN := hd (some ⟨v1.heap.size, 0, none⟩) hd1 (fun a ha => by injection ha with ha; subst ha; simp; omega); have hFg : Fr v1.heap.size (v1.heap.size + 1) w' (w'.setCell ⟨v1.heap.size, 0, none⟩ (.slice A' L'.length c')) := (Fr.refl _ _ _).setCell ⟨by simp, by simp⟩ _; have hO4 := hO3.apart hFg hdN hd2 hd3; have hY4 := hY3.set0 (.slice A' L'.length c'); have hR4 := hR3.off (p := ⟨v1.heap.size, 0, none⟩) (by simp; omega) (.slice A' L'.length c'); have hB4 := hB3.trans (hFg.below (B := w.heap.size) (by omega) (by have := hB3.size; omega)); clear hO hY hR hB hO3 hB3 hFg hOw hbw hbut hd g0 g1 g2 g3 g4 g5 f0 f1 f2 y0 y1 y2; obtain ⟨g0, g1, g2, g3, g4, g5⟩ := id hY3; obtain ⟨y0, y1, y2, _, _, _⟩ := id hY4; obtain ⟨q0, q1, q2, q3, q4, q5⟩ := id hR3; have hR := hR4; have hB := hB4; have hO := hO4; clear hY3 hY4 hR3 hR4 hB4 hO4; obtain ⟨k0, k1, k2, f0, f1, f2⟩ := id hR; have hR' := ((hR.set0 (.slice A' L'.length c')).set1 (.slice A2 r.length c2)).set2 (.slice A3 h.length c3); have hF : Fr w.heap.size (w.heap.size + 1) (w'.setCell ⟨v1.heap.size, 0, none⟩ (.slice A' L'.length c')) ((((w'.setCell ⟨v1.heap.size, 0, none⟩ (.slice A' L'.length c')).setCell ⟨w.heap.size, 0, none⟩ (.slice A' L'.length c')).setCell ⟨w.heap.size, 1, none⟩ (.slice A2 r.length c2)).setCell ⟨w.heap.size, 2, none⟩ (.slice A3 h.length c3)) := (((Fr.refl _ _ _).setCell ⟨by simp, by simp⟩ _).setCell ⟨by simp, by simp⟩ _).setCell ⟨by simp, by simp⟩ _; have hB' := hB.trans (hF.below (B := w.heap.size) (by omega) (by have := hB.size; omega)); have hO' := (hO.far hF (by omega)).lift (b0 := w.heap.size) (by omega); obtain ⟨x0, x1, x2, _, _, _⟩ := id hR')
      obtain rfl : ((L', r, h), true) = t := by rw [hL'.out, ← hT.out, sndU, if_neg g4'n, HF.out]
      refine bodyPost_ret (by simp [results, Try.results27, go_sem, x0, x1, x2]; try rfl) rfl ?_
      exact ⟨A', c', A2, c2, A3, c3, rfl, hO', hB'⟩
set_option maxRecDepth 100000 in
set_option maxHeartbeats 8000000 in
theorem SendMessage_implO (As : Option Addr) (cs : Nat) (s : List Msg) (Ar : Option Addr) (cr : Nat) (r : List Msg) (Ah : Option Addr) (ch : Nat) (h : List Msg) (f b : ByteArray) (w : World) (hls : s.length ≤ 1048576) (hms : ∀ y ∈ s, y.f.size ≤ 1048576 ∧ y.b.size ≤ 1048576) (hSs : Msgs w 0 w.heap.size As s) (hcs : s.length ≤ cs) (hlr : r.length ≤ 1048576) (hmr : ∀ y ∈ r, y.f.size ≤ 1048576 ∧ y.b.size ≤ 1048576) (hSr : Msgs w 0 w.heap.size Ar r) (hcr : r.length ≤ cr) (hlh : h.length ≤ 1048576) (hmh : ∀ y ∈ h, y.f.size ≤ 1048576 ∧ y.b.size ≤ 1048576) (hSh : Msgs w 0 w.heap.size Ah h) (hch : h.length ≤ ch) (hsf : f.size ≤ 1048576) (hsb : b.size ≤ 1048576) :
    Calls Try.prog 6 #[.agg #[.slice As s.length cs, .slice Ar r.length cr, .slice Ah h.length ch], .string f, .string b] w (RCO w (sndT s r h f b)) := by
  generalize hT : sndT s r h f b = t
  replace hT := Lib.hid hT
  have e1 : (w.alloc (.cells #[.slice As s.length cs, .slice Ar r.length cr, .slice Ah h.length ch] 26)).heap.size = w.heap.size + 1 := by simp
  have hX := (B3.new w (.slice As s.length cs) (.slice Ar r.length cr) (.slice Ah h.length ch) 26 _ rfl).alloc (.cells #[.slice none 0 0, .slice none 0 0, .slice none 0 0] 26)
  have hR := B3.new (w.alloc (.cells #[.slice As s.length cs, .slice Ar r.length cr, .slice Ah h.length ch] 26)) (.slice none 0 0) (.slice none 0 0) (.slice none 0 0) 26 (w.heap.size + 1) e1.symm
  obtain ⟨b0, b1, b2, _, _, _⟩ := id hX
  go_enter Try.func6, Try.ntmps6
  go_wp2_with fail
  refine (isChannel_any w.heap.size 0 As cs s Ar cr r Ah ch h _ hX.c3 hls hms ((hSs.alloc _).alloc _).all hcs hlr hmr ((hSr.alloc _).alloc _).all hcr hlh hmh ((hSh.alloc _).alloc _).all hch).mono ?_
  rintro e v1 ⟨rfl, hb⟩
  have hB : Below w.heap.size w v1 := Below.on' (by go_grown) hb
  replace hX := hX.below hb
  replace hR := hR.below hb
  clear b0 b1 b2 e1 hb
  obtain ⟨b0, b1, b2, _, _, _⟩ := id hX
  by_cases g : chanB s r h = true
  rotate_left
  · have g : chanB s r h = false := by simpa using g
    obtain rfl : chNo = t := (sndT_no (by rw [sndOk, g]; rfl)).trans hT.out
    rw [g]
    obtain ⟨k0, k1, k2, f0, f1, f2⟩ := id hR
    have hR' := ((hR.set0 (.slice none 0 0)).set1 (.slice none 0 0)).set2 (.slice none 0 0)
    have hF : Fr (w.heap.size + 1) ((w.heap.size + 1) + 1) v1 (((v1.setCell ⟨(w.heap.size + 1), 0, none⟩ (.slice none 0 0)).setCell ⟨(w.heap.size + 1), 1, none⟩ (.slice none 0 0)).setCell ⟨(w.heap.size + 1), 2, none⟩ (.slice none 0 0)) := (((Fr.refl _ _ _).setCell ⟨by simp, by simp⟩ _).setCell ⟨by simp, by simp⟩ _).setCell ⟨by simp, by simp⟩ _
    have hB' := hB.trans (hF.below (B := w.heap.size) (by omega) (by have := hB.size; omega))
    have hI := fun W => OwnC.nil (w := W) (base := w.heap.size)
    obtain ⟨x0, x1, x2, _, _, _⟩ := id hR'
    go_wp2
    refine bodyPost_ret (by simp [results, Try.results6, go_sem, x0, x1, x2]; try rfl) rfl ?_
    exact ⟨none, 0, none, 0, none, 0, rfl, hI _, hB'⟩
  rw [g]
  go_wp2_with fail
  refine (isName_any f _ hsf).mono ?_
  rintro e v2 ⟨rfl, hb⟩
  replace hB := Below.on' hB hb
  replace hX := hX.below hb
  replace hR := hR.below hb
  clear b0 b1 b2 hb
  obtain ⟨b0, b1, b2, _, _, _⟩ := id hX
  by_cases g2 : nameB f = true
  rotate_left
  · have g2 : nameB f = false := by simpa using g2
    obtain rfl : chNo = t := (sndT_no (by rw [sndOk, g, g2]; rfl)).trans hT.out
    rw [g2]
    obtain ⟨k0, k1, k2, f0, f1, f2⟩ := id hR
    have hR' := ((hR.set0 (.slice none 0 0)).set1 (.slice none 0 0)).set2 (.slice none 0 0)
    have hF : Fr (w.heap.size + 1) ((w.heap.size + 1) + 1) v2 (((v2.setCell ⟨(w.heap.size + 1), 0, none⟩ (.slice none 0 0)).setCell ⟨(w.heap.size + 1), 1, none⟩ (.slice none 0 0)).setCell ⟨(w.heap.size + 1), 2, none⟩ (.slice none 0 0)) := (((Fr.refl _ _ _).setCell ⟨by simp, by simp⟩ _).setCell ⟨by simp, by simp⟩ _).setCell ⟨by simp, by simp⟩ _
    have hB' := hB.trans (hF.below (B := w.heap.size) (by omega) (by have := hB.size; omega))
    have hI := fun W => OwnC.nil (w := W) (base := w.heap.size)
    obtain ⟨x0, x1, x2, _, _, _⟩ := id hR'
    go_wp2
    refine bodyPost_ret (by simp [results, Try.results6, go_sem, x0, x1, x2]; try rfl) rfl ?_
    exact ⟨none, 0, none, 0, none, 0, rfl, hI _, hB'⟩
  rw [g2]
  go_wp2_with fail
  refine (isBody_any b _ hsb).mono ?_
  rintro e v3 ⟨rfl, hb⟩
  replace hB := Below.on' hB hb
  replace hX := hX.below hb
  replace hR := hR.below hb
  clear b0 b1 b2 hb
  obtain ⟨b0, b1, b2, _, _, _⟩ := id hX
  by_cases g3 : bodyB b = true
  rotate_left
  · have g3 : bodyB b = false := by simpa using g3
    obtain rfl : chNo = t := (sndT_no (by rw [sndOk, g, g2, g3]; rfl)).trans hT.out
    rw [g3]
    obtain ⟨k0, k1, k2, f0, f1, f2⟩ := id hR
    have hR' := ((hR.set0 (.slice none 0 0)).set1 (.slice none 0 0)).set2 (.slice none 0 0)
    have hF : Fr (w.heap.size + 1) ((w.heap.size + 1) + 1) v3 (((v3.setCell ⟨(w.heap.size + 1), 0, none⟩ (.slice none 0 0)).setCell ⟨(w.heap.size + 1), 1, none⟩ (.slice none 0 0)).setCell ⟨(w.heap.size + 1), 2, none⟩ (.slice none 0 0)) := (((Fr.refl _ _ _).setCell ⟨by simp, by simp⟩ _).setCell ⟨by simp, by simp⟩ _).setCell ⟨by simp, by simp⟩ _
    have hB' := hB.trans (hF.below (B := w.heap.size) (by omega) (by have := hB.size; omega))
    have hI := fun W => OwnC.nil (w := W) (base := w.heap.size)
    obtain ⟨x0, x1, x2, _, _, _⟩ := id hR'
    go_wp2
    refine bodyPost_ret (by simp [results, Try.results6, go_sem, x0, x1, x2]; try rfl) rfl ?_
    exact ⟨none, 0, none, 0, none, 0, rfl, hI _, hB'⟩
  rw [g3]
  obtain rfl : sndU s r h f b = t := (sndT_U g g2 g3).trans hT.out
  clear hT g g2 g3
  go_wp2_with fail
  refine (sendMessage_anyO w.heap.size 0 As cs s Ar cr r Ah ch h f b _ hX.c3 hls (hSs.below hB).all hlr (hSr.below hB).all hlh (hSh.below hB).all).mono ?_
  rintro e v4 ⟨A1, c1, A2, c2, A3, c3, rfl, hI0, hb⟩
  have hz := hR.lt
  replace hB := Below.on' hB hb
  replace hR := hR.below hb
  clear b0 b1 b2 hb hX
  obtain ⟨k0, k1, k2, f0, f1, f2⟩ := id hR
  have hR' := ((hR.set0 (.slice A1 (sndU s r h f b).1.1.length c1)).set1 (.slice A2 (sndU s r h f b).1.2.1.length c2)).set2 (.slice A3 (sndU s r h f b).1.2.2.length c3)
  have hF : Fr (w.heap.size + 1) ((w.heap.size + 1) + 1) v4 (((v4.setCell ⟨(w.heap.size + 1), 0, none⟩ (.slice A1 (sndU s r h f b).1.1.length c1)).setCell ⟨(w.heap.size + 1), 1, none⟩ (.slice A2 (sndU s r h f b).1.2.1.length c2)).setCell ⟨(w.heap.size + 1), 2, none⟩ (.slice A3 (sndU s r h f b).1.2.2.length c3)) := (((Fr.refl _ _ _).setCell ⟨by simp, by simp⟩ _).setCell ⟨by simp, by simp⟩ _).setCell ⟨by simp, by simp⟩ _
  have hB' := hB.trans (hF.below (B := w.heap.size) (by omega) (by have := hB.size; omega))
  have HI := (hI0.far hF (by omega)).lift (b0 := w.heap.size) (by omega)
  obtain ⟨x0, x1, x2, _, _, _⟩ := id hR'
  go_wp2
  refine bodyPost_ret (by simp [results, Try.results6, go_sem, x0, x1, x2]; try rfl) rfl ?_
  exact ⟨A1, c1, A2, c2, A3, c3, rfl, HI, hB'⟩
set_option maxRecDepth 100000 in
set_option maxHeartbeats 16000000 in
theorem RunDeliveries_implO (As : Option Addr) (cs : Nat) (s : List Msg) (Ar : Option Addr) (cr : Nat) (r : List Msg) (Ah : Option Addr) (ch : Nat) (h : List Msg) (p : ByteArray) (w : World) (hls : s.length ≤ 1048576) (hms : ∀ y ∈ s, y.f.size ≤ 1048576 ∧ y.b.size ≤ 1048576) (hSs : Msgs w 0 w.heap.size As s) (hcs : s.length ≤ cs) (hlr : r.length ≤ 1048576) (hmr : ∀ y ∈ r, y.f.size ≤ 1048576 ∧ y.b.size ≤ 1048576) (hSr : Msgs w 0 w.heap.size Ar r) (hcr : r.length ≤ cr) (hlh : h.length ≤ 1048576) (hmh : ∀ y ∈ h, y.f.size ≤ 1048576 ∧ y.b.size ≤ 1048576) (hSh : Msgs w 0 w.heap.size Ah h) (hch : h.length ≤ ch) (hsp : p.size ≤ 1048576) :
    Calls Try.prog 18 #[.agg #[.slice As s.length cs, .slice Ar r.length cr, .slice Ah h.length ch], .string p] w (RCO w (runT s r h p)) := by
  generalize hT : runT s r h p = t
  replace hT := Lib.hid hT
  have e1 : (w.alloc (.cells #[.slice As s.length cs, .slice Ar r.length cr, .slice Ah h.length ch] 26)).heap.size = w.heap.size + 1 := by simp
  have hX := (B3.new w (.slice As s.length cs) (.slice Ar r.length cr) (.slice Ah h.length ch) 26 _ rfl).alloc (.cells #[.slice none 0 0, .slice none 0 0, .slice none 0 0] 26)
  have hR := B3.new (w.alloc (.cells #[.slice As s.length cs, .slice Ar r.length cr, .slice Ah h.length ch] 26)) (.slice none 0 0) (.slice none 0 0) (.slice none 0 0) 26 (w.heap.size + 1) e1.symm
  obtain ⟨b0, b1, b2, _, _, _⟩ := id hX
  go_enter Try.func18, Try.ntmps18
  go_wp2_with fail
  refine (isChannel_any w.heap.size 0 As cs s Ar cr r Ah ch h _ hX.c3 hls hms ((hSs.alloc _).alloc _).all hcs hlr hmr ((hSr.alloc _).alloc _).all hcr hlh hmh ((hSh.alloc _).alloc _).all hch).mono ?_
  rintro e v1 ⟨rfl, hb⟩
  have hB : Below w.heap.size w v1 := Below.on' (by go_grown) hb
  replace hX := hX.below hb
  replace hR := hR.below hb
  clear b0 b1 b2 e1 hb
  obtain ⟨b0, b1, b2, _, _, _⟩ := id hX
  by_cases g : chanB s r h = true
  rotate_left
  · have g : chanB s r h = false := by simpa using g
    obtain rfl : chNo = t := (runT_no (by rw [runOk, g]; rfl)).trans hT.out
    rw [g]
    obtain ⟨k0, k1, k2, f0, f1, f2⟩ := id hR
    have hR' := ((hR.set0 (.slice none 0 0)).set1 (.slice none 0 0)).set2 (.slice none 0 0)
    have hF : Fr (w.heap.size + 1) ((w.heap.size + 1) + 1) v1 (((v1.setCell ⟨(w.heap.size + 1), 0, none⟩ (.slice none 0 0)).setCell ⟨(w.heap.size + 1), 1, none⟩ (.slice none 0 0)).setCell ⟨(w.heap.size + 1), 2, none⟩ (.slice none 0 0)) := (((Fr.refl _ _ _).setCell ⟨by simp, by simp⟩ _).setCell ⟨by simp, by simp⟩ _).setCell ⟨by simp, by simp⟩ _
    have hB' := hB.trans (hF.below (B := w.heap.size) (by omega) (by have := hB.size; omega))
    have hI := fun W => OwnC.nil (w := W) (base := w.heap.size)
    obtain ⟨x0, x1, x2, _, _, _⟩ := id hR'
    go_wp2
    refine bodyPost_ret (by simp [results, Try.results18, go_sem, x0, x1, x2]; try rfl) rfl ?_
    exact ⟨none, 0, none, 0, none, 0, rfl, hI _, hB'⟩
  rw [g]
  by_cases g2 : p.size ≤ 60
  rotate_left
  · have g2' : (60 : Int) < p.size := by omega
    obtain rfl : chNo = t := (runT_no (by rw [runOk, g]; simpa using g2)).trans hT.out
    obtain ⟨k0, k1, k2, f0, f1, f2⟩ := id hR
    have hR' := ((hR.set0 (.slice none 0 0)).set1 (.slice none 0 0)).set2 (.slice none 0 0)
    have hF : Fr (w.heap.size + 1) ((w.heap.size + 1) + 1) v1 (((v1.setCell ⟨(w.heap.size + 1), 0, none⟩ (.slice none 0 0)).setCell ⟨(w.heap.size + 1), 1, none⟩ (.slice none 0 0)).setCell ⟨(w.heap.size + 1), 2, none⟩ (.slice none 0 0)) := (((Fr.refl _ _ _).setCell ⟨by simp, by simp⟩ _).setCell ⟨by simp, by simp⟩ _).setCell ⟨by simp, by simp⟩ _
    have hB' := hB.trans (hF.below (B := w.heap.size) (by omega) (by have := hB.size; omega))
    have hI := fun W => OwnC.nil (w := W) (base := w.heap.size)
    obtain ⟨x0, x1, x2, _, _, _⟩ := id hR'
    go_wp2
    refine bodyPost_ret (by simp [results, Try.results18, go_sem, x0, x1, x2]; try rfl) rfl ?_
    exact ⟨none, 0, none, 0, none, 0, rfl, hI _, hB'⟩
  have g2' : ¬ (60 : Int) < p.size := by omega
  have hg : runOk s r h p = true := by rw [runOk, g]; simpa using g2
  have G0 := ChanG.of g
  obtain ⟨n1, n2, n3⟩ := chan_len g
  go_wp2_with fail
  refine (copyChannel_any w.heap.size 0 As cs s Ar cr r Ah ch h _ hX.c3 hls (hSs.below hB).all hlr (hSr.below hB).all hlh (hSh.below hB).all).mono ?_
  rintro e v2 ⟨A1, c1, A2, c2, A3, c3, rfl, hO, hb⟩
  have hz := hR.lt
  have hz2 := hb.size
  replace hB := Below.on' hB hb
  replace hR := (hR.below hb).alloc (.cells #[.slice A1 s.length c1, .slice A2 r.length c2, .slice A3 h.length c3] 26)
  clear b0 b1 b2 hb hX g
  have hY := B3.new v2 (.slice A1 s.length c1) (.slice A2 r.length c2) (.slice A3 h.length c3) 26 _ rfl
  have hE1 := dis_lt hO.o1.blk
  have hE2 := dis_lt hO.o2.blk
  have hE3 := dis_lt hO.o3.blk
  have hP2 : Dis A2 (some ⟨v2.heap.size + 1, 0, none⟩) := fun a a2 e1 e2 q => by injection e2 with e2; subst e2; have := hO.o2.blk a e1; simp only at q; omega
  have hP3 : Dis A3 (some ⟨v2.heap.size + 1, 0, none⟩) := fun a a2 e1 e2 q => by injection e2 with e2; subst e2; have := hO.o3.blk a e1; simp only at q; omega
  replace hB := hB.alloc hB.size (.cells #[.slice A1 s.length c1, .slice A2 r.length c2, .slice A3 h.length c3] 26)
  replace hO := hO.alloc (.cells #[.slice A1 s.length c1, .slice A2 r.length c2, .slice A3 h.length c3] 26)
  have HX : Hid (rdN s p (p.size - 0) 0 r h = rdN s p p.size 0 r h) := Lib.hid rfl
  obtain ⟨cap, V, hconv, hP, hbV, hPlt⟩ := conv_bytes (v2.alloc (.cells #[.slice A1 s.length c1, .slice A2 r.length c2, .slice A3 h.length c3] 26)) p
  have e2 : (v2.alloc (.cells #[.slice A1 s.length c1, .slice A2 r.length c2, .slice A3 h.length c3] 26)).heap.size = v2.heap.size + 1 := by simp
  rw [e2] at hconv hP hPlt
  replace hB := Below.on' hB hbV
  replace hR := hR.below hbV
  replace hY := hY.below hbV
  replace hO := hO.below hbV
  go_wp2_with fail
  go_loopw [23] (fun i wr => ∃ (k : Nat) (r' h' : List Msg) (A1 : Option Addr) (c1 : Nat) (A2 : Option Addr) (c2 : Nat) (A3 : Option Addr) (c3 : Nat), k ≤ p.size ∧ i = .int .i64 k ∧ Hid (rdN s p (p.size - k) k r' h' = rdN s p p.size 0 r h) ∧ ChanG s r' h' ∧ r'.length ≤ 30 + k ∧ h'.length ≤ 30 + k ∧ B3 v2.heap.size (.slice A1 s.length c1) (.slice A2 r'.length c2) (.slice A3 h'.length c3) wr ∧ OwnC wr v1.heap.size A1 c1 s A2 c2 r' A3 c3 h' ∧ Dis A1 (some ⟨v2.heap.size, 0, none⟩) ∧ Dis A2 (some ⟨v2.heap.size, 0, none⟩) ∧ Dis A3 (some ⟨v2.heap.size, 0, none⟩) ∧ B3 (w.heap.size + 1) (.slice none 0 0) (.slice none 0 0) (.slice none 0 0) wr ∧ Below w.heap.size w wr ∧ Dis A2 (some ⟨v2.heap.size + 1, 0, none⟩) ∧ Dis A3 (some ⟨v2.heap.size + 1, 0, none⟩) ∧ v2.heap.size + 1 < wr.heap.size ∧ (∀ q (h : q < p.size), wr.cell? ⟨v2.heap.size + 1, q, none⟩ = some (.int .u8 (p[q].toNat : Int)))) (fun i _ => p.size - (intOf i).toNat)
  case atStart => exact ⟨0, r, h, A1, c1, A2, c2, A3, c3, Nat.zero_le _, rfl, HX, G0, by omega, by omega, hY, hO, hE1, hE2, hE3, hR, hB, hP2, hP3, hPlt, hP⟩
  case round =>
    clear hY hO hE1 hE2 hE3 hR hB HX G0 hP hconv hbV e2 hP2 hP3 hPlt
    obtain ⟨k, r', h', A1, c1, A2, c2, A3, c3, hk, rfl, HX, G, hlr', hlh', hY, hO, hE1, hE2, hE3, hR, hB, hP2, hP3, hPlt, hP⟩ := hrel
    obtain ⟨b0, b1, b2, _, _, _⟩ := id hY
    have hbase : v1.heap.size ≤ wr.heap.size := by have := hY.lt; omega
    by_cases hlt : k < p.size
    · have c0 := hP k hlt
      rcases (by omega : (97 ≤ p[k].toNat ∧ p[k].toNat ≤ 122) ∨ (65 ≤ p[k].toNat ∧ p[k].toNat ≤ 90) ∨ p[k].toNat < 65 ∨ (90 < p[k].toNat ∧ p[k].toNat < 97) ∨ 122 < p[k].toNat) with hc | hc | hc | hc | hc
      · obtain ⟨j, ej⟩ : ∃ j : Nat, p[k].toNat = 97 + j := ⟨p[k].toNat - 97, by omega⟩
        have l0 : 97 ≤ (p[k].toNat : Int) := by omega
        have l1 : (p[k].toNat : Int) ≤ 122 := by omega
        have ej' : (p[k].toNat : Int) - 97 = (j : Nat) := by omega
        have hw8 : IntKind.u8.wrap (j : Int) = j := IntWalk.u8_in _ (by omega)
        have hw6 : IntKind.i64.wrap (j : Int) = j := IntWalk.i64_in _ (by omega)
        by_cases hj : j < s.length
        · have hj' : (j : Int) < s.length := by omega
          obtain ⟨m, hm, _⟩ := get_lt hj
          have hq := rd_a (s := s) (r := r') (h := h') (c := p[k].toNat) (by omega) ej hm
          have HX' : Hid (rdN s p (p.size - (k + 1)) (k + 1) ((addM r' m)) (h') = rdN s p p.size 0 r h) := Lib.hid (by rw [← HX.out, rdN_step hlt, hq])
          have G' := G.deliver (List.mem_of_getElem? hm)
          have hal := addM_len r' m
          clear hq HX hT ej hc
          go_wp2_with fail
          have hgl := hY.lt
          refine (deliver_any v2.heap.size 0 v1.heap.size A1 c1 s A2 c2 r' A3 c3 h' _ hY.c3 hO (by omega) (by omega) hE1 hE2 hE3 hls (by omega) j m hm).mono ?_
          rintro e v3 ⟨A', c', rfl, hC, hO4, hdN, hb, hbp, hdd, _⟩
          have hY4 := hC.b3
          have hR4 := hR.upto (by omega) hb
          have hB4 := hB.trans (hb.mono (by omega))
          have hP4 := fun (q : Nat) (hq : q < p.size) => (World.cell?_of_block (a := ⟨v2.heap.size + 1, q, none⟩) (hbp (v2.heap.size + 1) (by have := World.block_lt_of_cell? _ _ (hP q hq); exact this) (by omega) (fun a ha => hP2 a _ ha rfl))).trans (hP q hq)
          have hPl : v2.heap.size + 1 < wr.heap.size := hPlt
          have hPN := hdd _ hP2 (fun a ha => by injection ha with ha; subst ha; exact hPl)
          clear hO hY hR hB b0 b1 b2 hbp
          go_wp2
          go_roundw
          case rel => exact ⟨k + 1, (addM r' m), h', A1, c1, A', c', A3, c3, by omega, by go_num, HX', G', by omega, by omega, hY4, hO4, hE1, hdN, hE3, hR4, hB4, hPN, hP3, Nat.lt_of_lt_of_le hPl hb.size, hP4⟩
          case measure => simp [intOf]; omega
        · have hj' : ¬ (j : Int) < s.length := by omega
          have hq := rd_a0 (s := s) (r := r') (h := h') (c := p[k].toNat) (by omega) ej (by omega)
          have HX' : Hid (rdN s p (p.size - (k + 1)) (k + 1) r' h' = rdN s p p.size 0 r h) := Lib.hid (by rw [← HX.out, rdN_step hlt, hq])
          clear hq HX hT ej hc
          go_wp2
          go_roundw
          case rel => exact ⟨k + 1, r', h', A1, c1, A2, c2, A3, c3, by omega, by go_num, HX', G, by omega, by omega, hY, hO, hE1, hE2, hE3, hR, hB, hP2, hP3, hPlt, hP⟩
          case measure => simp [intOf]; omega
      · obtain ⟨j, ej⟩ : ∃ j : Nat, p[k].toNat = 65 + j := ⟨p[k].toNat - 65, by omega⟩
        have l0 : ¬ 97 ≤ (p[k].toNat : Int) := by omega
        have l2 : 65 ≤ (p[k].toNat : Int) := by omega
        have l3 : (p[k].toNat : Int) ≤ 90 := by omega
        have ej' : (p[k].toNat : Int) - 65 = (j : Nat) := by omega
        have hw8 : IntKind.u8.wrap (j : Int) = j := IntWalk.u8_in _ (by omega)
        have hw6 : IntKind.i64.wrap (j : Int) = j := IntWalk.i64_in _ (by omega)
        by_cases hj : j < r'.length
        · have hj' : (j : Int) < r'.length := by omega
          obtain ⟨m, hm, _⟩ := get_lt hj
          have hq := rd_A (s := s) (r := r') (h := h') (c := p[k].toNat) (by omega) ej hm
          have HX' : Hid (rdN s p (p.size - (k + 1)) (k + 1) (r') ((addM h' m)) = rdN s p p.size 0 r h) := Lib.hid (by rw [← HX.out, rdN_step hlt, hq])
          have G' := G.confirm (List.mem_of_getElem? hm)
          have hal := addM_len h' m
          clear hq HX hT ej hc
          go_wp2_with fail
          have hgl := hY.lt
          refine (confirm_any v2.heap.size 0 v1.heap.size A1 c1 s A2 c2 r' A3 c3 h' _ hY.c3 hO (by omega) (by omega) hE1 hE2 hE3 (by omega) (by omega) j m hm).mono ?_
          rintro e v3 ⟨A', c', rfl, hC, hO4, hdN, hb, hbp, hdd, _⟩
          have hY4 := hC.b3
          have hR4 := hR.upto (by omega) hb
          have hB4 := hB.trans (hb.mono (by omega))
          have hP4 := fun (q : Nat) (hq : q < p.size) => (World.cell?_of_block (a := ⟨v2.heap.size + 1, q, none⟩) (hbp (v2.heap.size + 1) (by have := World.block_lt_of_cell? _ _ (hP q hq); exact this) (by omega) (fun a ha => hP3 a _ ha rfl))).trans (hP q hq)
          have hPl : v2.heap.size + 1 < wr.heap.size := hPlt
          have hPN := hdd _ hP3 (fun a ha => by injection ha with ha; subst ha; exact hPl)
          clear hO hY hR hB b0 b1 b2 hbp
          go_wp2
          go_roundw
          case rel => exact ⟨k + 1, r', (addM h' m), A1, c1, A2, c2, A', c', by omega, by go_num, HX', G', by omega, by omega, hY4, hO4, hE1, hE2, hdN, hR4, hB4, hP2, hPN, Nat.lt_of_lt_of_le hPl hb.size, hP4⟩
          case measure => simp [intOf]; omega
        · have hj' : ¬ (j : Int) < r'.length := by omega
          have hq := rd_A0 (s := s) (r := r') (h := h') (c := p[k].toNat) (by omega) ej (by omega)
          have HX' : Hid (rdN s p (p.size - (k + 1)) (k + 1) r' h' = rdN s p p.size 0 r h) := Lib.hid (by rw [← HX.out, rdN_step hlt, hq])
          clear hq HX hT ej hc
          go_wp2
          go_roundw
          case rel => exact ⟨k + 1, r', h', A1, c1, A2, c2, A3, c3, by omega, by go_num, HX', G, by omega, by omega, hY, hO, hE1, hE2, hE3, hR, hB, hP2, hP3, hPlt, hP⟩
          case measure => simp [intOf]; omega
      · have hq := rd_no (s := s) (r := r') (h := h') (c := p[k].toNat) (by omega) (by omega)
        obtain rfl : chNo = t := by rw [← hT.out, runT, if_pos hg, ← HX.out, rdN_step hlt, hq]
        have l0 : ¬ 97 ≤ (p[k].toNat : Int) := by omega
        have l2 : ¬ 65 ≤ (p[k].toNat : Int) := by omega
        clear hT HX hq hg
        obtain ⟨k0, k1, k2, f0, f1, f2⟩ := id hR
        have hR' := ((hR.set0 (.slice none 0 0)).set1 (.slice none 0 0)).set2 (.slice none 0 0)
        have hF : Fr (w.heap.size + 1) ((w.heap.size + 1) + 1) wr (((wr.setCell ⟨(w.heap.size + 1), 0, none⟩ (.slice none 0 0)).setCell ⟨(w.heap.size + 1), 1, none⟩ (.slice none 0 0)).setCell ⟨(w.heap.size + 1), 2, none⟩ (.slice none 0 0)) := (((Fr.refl _ _ _).setCell ⟨by simp, by simp⟩ _).setCell ⟨by simp, by simp⟩ _).setCell ⟨by simp, by simp⟩ _
        have hB' := hB.trans (hF.below (B := w.heap.size) (by omega) (by have := hB.size; omega))
        have hI := fun W => OwnC.nil (w := W) (base := w.heap.size)
        obtain ⟨x0, x1, x2, _, _, _⟩ := id hR'
        go_wp2
        refine bodyPost_ret (by simp [results, Try.results18, go_sem, x0, x1, x2]; try rfl) rfl ?_
        exact ⟨none, 0, none, 0, none, 0, rfl, hI _, hB'⟩
      · have hq := rd_no (s := s) (r := r') (h := h') (c := p[k].toNat) (by omega) (by omega)
        obtain rfl : chNo = t := by rw [← hT.out, runT, if_pos hg, ← HX.out, rdN_step hlt, hq]
        have l0 : ¬ 97 ≤ (p[k].toNat : Int) := by omega
        have l2 : 65 ≤ (p[k].toNat : Int) := by omega
        have l3 : ¬ (p[k].toNat : Int) ≤ 90 := by omega
        clear hT HX hq hg
        obtain ⟨k0, k1, k2, f0, f1, f2⟩ := id hR
        have hR' := ((hR.set0 (.slice none 0 0)).set1 (.slice none 0 0)).set2 (.slice none 0 0)
        have hF : Fr (w.heap.size + 1) ((w.heap.size + 1) + 1) wr (((wr.setCell ⟨(w.heap.size + 1), 0, none⟩ (.slice none 0 0)).setCell ⟨(w.heap.size + 1), 1, none⟩ (.slice none 0 0)).setCell ⟨(w.heap.size + 1), 2, none⟩ (.slice none 0 0)) := (((Fr.refl _ _ _).setCell ⟨by simp, by simp⟩ _).setCell ⟨by simp, by simp⟩ _).setCell ⟨by simp, by simp⟩ _
        have hB' := hB.trans (hF.below (B := w.heap.size) (by omega) (by have := hB.size; omega))
        have hI := fun W => OwnC.nil (w := W) (base := w.heap.size)
        obtain ⟨x0, x1, x2, _, _, _⟩ := id hR'
        go_wp2
        refine bodyPost_ret (by simp [results, Try.results18, go_sem, x0, x1, x2]; try rfl) rfl ?_
        exact ⟨none, 0, none, 0, none, 0, rfl, hI _, hB'⟩
      · have hq := rd_no (s := s) (r := r') (h := h') (c := p[k].toNat) (by omega) (by omega)
        obtain rfl : chNo = t := by rw [← hT.out, runT, if_pos hg, ← HX.out, rdN_step hlt, hq]
        have l0 : 97 ≤ (p[k].toNat : Int) := by omega
        have l1 : ¬ (p[k].toNat : Int) ≤ 122 := by omega
        have l2 : 65 ≤ (p[k].toNat : Int) := by omega
        have l3 : ¬ (p[k].toNat : Int) ≤ 90 := by omega
        clear hT HX hq hg
        obtain ⟨k0, k1, k2, f0, f1, f2⟩ := id hR
        have hR' := ((hR.set0 (.slice none 0 0)).set1 (.slice none 0 0)).set2 (.slice none 0 0)
        have hF : Fr (w.heap.size + 1) ((w.heap.size + 1) + 1) wr (((wr.setCell ⟨(w.heap.size + 1), 0, none⟩ (.slice none 0 0)).setCell ⟨(w.heap.size + 1), 1, none⟩ (.slice none 0 0)).setCell ⟨(w.heap.size + 1), 2, none⟩ (.slice none 0 0)) := (((Fr.refl _ _ _).setCell ⟨by simp, by simp⟩ _).setCell ⟨by simp, by simp⟩ _).setCell ⟨by simp, by simp⟩ _
        have hB' := hB.trans (hF.below (B := w.heap.size) (by omega) (by have := hB.size; omega))
        have hI := fun W => OwnC.nil (w := W) (base := w.heap.size)
        obtain ⟨x0, x1, x2, _, _, _⟩ := id hR'
        go_wp2
        refine bodyPost_ret (by simp [results, Try.results18, go_sem, x0, x1, x2]; try rfl) rfl ?_
        exact ⟨none, 0, none, 0, none, 0, rfl, hI _, hB'⟩
    · obtain rfl : k = p.size := by omega
      obtain rfl : ((s, r', h'), true) = t := by rw [← hT.out, runT, if_pos hg, ← HX.out, Nat.sub_self]; rfl
      clear hT HX
      obtain ⟨k0, k1, k2, f0, f1, f2⟩ := id hR
      have hR' := ((hR.set0 (.slice A1 s.length c1)).set1 (.slice A2 r'.length c2)).set2 (.slice A3 h'.length c3)
      have hF : Fr (w.heap.size + 1) ((w.heap.size + 1) + 1) wr (((wr.setCell ⟨(w.heap.size + 1), 0, none⟩ (.slice A1 s.length c1)).setCell ⟨(w.heap.size + 1), 1, none⟩ (.slice A2 r'.length c2)).setCell ⟨(w.heap.size + 1), 2, none⟩ (.slice A3 h'.length c3)) := (((Fr.refl _ _ _).setCell ⟨by simp, by simp⟩ _).setCell ⟨by simp, by simp⟩ _).setCell ⟨by simp, by simp⟩ _
      have hB' := hB.trans (hF.below (B := w.heap.size) (by omega) (by have := hB.size; omega))
      have hO' := (hO.far hF (by omega)).lift (b0 := w.heap.size) (by omega)
      obtain ⟨x0, x1, x2, _, _, _⟩ := id hR'
      go_wp2
      refine bodyPost_ret (by simp [results, Try.results18, go_sem, x0, x1, x2]; try rfl) rfl ?_
      exact ⟨A1, c1, A2, c2, A3, c3, rfl, hO', hB'⟩
end Go.Proofs.Ytacjdapfbmdddaa

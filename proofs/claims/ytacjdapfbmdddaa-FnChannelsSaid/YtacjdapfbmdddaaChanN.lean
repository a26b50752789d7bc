/- NextInOrder and LastOf, on both sides. Condition: at most 2^20 messages in each list, texts of at most 2^20. -/
import Derived.Test.YtacjdapfbmdddaaChcP
import Derived.RegionTactic
namespace Go.Proofs.Ytacjdapfbmdddaa
open Go.RowKit

set_option maxRecDepth 100000 in
set_option maxHeartbeats 8000000 in
theorem NextInOrder_impl (As : Option Addr) (cs : Nat) (s : List Msg) (Ar : Option Addr) (cr : Nat) (r : List Msg) (Ah : Option Addr) (ch : Nat) (h : List Msg) (f : ByteArray) (w : World) (hls : s.length ≤ 1048576) (hms : ∀ y ∈ s, y.f.size ≤ 1048576 ∧ y.b.size ≤ 1048576) (hSs : Msgs w 0 w.heap.size As s) (hcs : s.length ≤ cs) (hlr : r.length ≤ 1048576) (hmr : ∀ y ∈ r, y.f.size ≤ 1048576 ∧ y.b.size ≤ 1048576) (hSr : Msgs w 0 w.heap.size Ar r) (hcr : r.length ≤ cr) (hlh : h.length ≤ 1048576) (hmh : ∀ y ∈ h, y.f.size ≤ 1048576 ∧ y.b.size ≤ 1048576) (hSh : Msgs w 0 w.heap.size Ah h) (hch : h.length ≤ ch) (hsf : f.size ≤ 1048576) :
    Calls Try.prog 13 #[.agg #[.slice As s.length cs, .slice Ar r.length cr, .slice Ah h.length ch], .string f] w (RV w (.tuple #[.int .i64 (nxtT s r h f).1, .bool (nxtT s r h f).2])) := by
  generalize hT : nxtT s r h f = t
  replace hT := Lib.hid hT
  have hX := B3.new w (.slice As s.length cs) (.slice Ar r.length cr) (.slice Ah h.length ch) 26 _ rfl
  obtain ⟨b0, b1, b2, _, _, _⟩ := id hX
  go_enter Try.func13, Try.ntmps13
  go_wp2_with fail
  refine (isChannel_any w.heap.size 0 As cs s Ar cr r Ah ch h _ hX.c3 hls hms (hSs.alloc _).all hcs hlr hmr (hSr.alloc _).all hcr hlh hmh (hSh.alloc _).all hch).mono ?_
  rintro e v1 ⟨rfl, hb⟩
  have hB : Below w.heap.size w v1 := Below.on' (by go_grown) hb
  replace hX := hX.below hb
  clear b0 b1 b2 hb
  obtain ⟨b0, b1, b2, _, _, _⟩ := id hX
  by_cases g : chanB s r h = true
  rotate_left
  · have g : chanB s r h = false := by simpa using g
    obtain rfl : (0, false) = t := (nxtT_no (by rw [g]; rfl)).symm.trans hT.out
    rw [g]
    go_wp2
    go_ret2
    exact ⟨rfl, hB⟩
  rw [g]
  go_wp2_with fail
  refine (isName_any f _ hsf).mono ?_
  rintro e v2 ⟨rfl, hb⟩
  replace hB := Below.on' hB hb
  replace hX := hX.below hb
  clear b0 b1 b2 hb
  obtain ⟨b0, b1, b2, _, _, _⟩ := id hX
  by_cases g2 : nameB f = true
  rotate_left
  · have g2 : nameB f = false := by simpa using g2
    obtain rfl : (0, false) = t := (nxtT_no (by rw [g, g2]; rfl)).symm.trans hT.out
    rw [g2]
    go_wp2
    go_ret2
    exact ⟨rfl, hB⟩
  rw [g2]
  obtain rfl : (((ordF r f).length : Int) + 1, true) = t := (nxtT_yes (by rw [g, g2]; rfl)).symm.trans hT.out
  have G := ChanG.of g
  have hn : ∀ x ∈ r, x.n ≤ 999 := fun x hx => (G.num x (G.rs x hx)).2
  have hn1 : ∀ x ∈ r, 1 ≤ x.n := fun x hx => (G.num x (G.rs x hx)).1
  clear hT g g2
  go_wp2_with fail
  refine (inOrder_any w.heap.size 0 _ _ Ar cr r f _ hX.c3 hlr (hSr.below hB).all hn).mono ?_
  rintro e v3 ⟨A, c, rfl, hS, hc, hb⟩
  have hz := hB.size
  have hB3 := Below.on' hB hb
  have hO := ordF_len r f
  obtain ⟨M, HM⟩ : ∃ M, Hid ((ordF r f).length = M) := ⟨_, Lib.hid rfl⟩
  rw [HM.out] at hO ⊢
  go_wp2
  go_ret2
  exact ⟨by rw [← HM.out]; rfl, hB3⟩
set_option maxRecDepth 100000 in
set_option maxHeartbeats 8000000 in
theorem NextInOrder_spec (As : Option Addr) (cs : Nat) (s : List Msg) (Ar : Option Addr) (cr : Nat) (r : List Msg) (Ah : Option Addr) (ch : Nat) (h : List Msg) (f : ByteArray) (w : World) (hls : s.length ≤ 1048576) (hms : ∀ y ∈ s, y.f.size ≤ 1048576 ∧ y.b.size ≤ 1048576) (hSs : Msgs w 0 w.heap.size As s) (hcs : s.length ≤ cs) (hlr : r.length ≤ 1048576) (hmr : ∀ y ∈ r, y.f.size ≤ 1048576 ∧ y.b.size ≤ 1048576) (hSr : Msgs w 0 w.heap.size Ar r) (hcr : r.length ≤ cr) (hlh : h.length ≤ 1048576) (hmh : ∀ y ∈ h, y.f.size ≤ 1048576 ∧ y.b.size ≤ 1048576) (hSh : Msgs w 0 w.heap.size Ah h) (hch : h.length ≤ ch) (hsf : f.size ≤ 1048576) :
    Calls Try.prog 14 #[.agg #[.slice As s.length cs, .slice Ar r.length cr, .slice Ah h.length ch], .string f] w (RV w (.tuple #[.int .i64 (nxtT s r h f).1, .bool (nxtT s r h f).2])) := by
  generalize hT : nxtT s r h f = t
  replace hT := Lib.hid hT
  have hX := B3.new w (.slice As s.length cs) (.slice Ar r.length cr) (.slice Ah h.length ch) 26 _ rfl
  obtain ⟨b0, b1, b2, _, _, _⟩ := id hX
  go_enter Try.func14, Try.ntmps14
  go_wp2_with fail
  refine (raGood_any As cs s Ar cr r Ah ch h _ hls hms (hSs.alloc _).all hcs hlr hmr (hSr.alloc _).all hcr hlh hmh (hSh.alloc _).all hch).mono ?_
  rintro e v1 ⟨rfl, hb⟩
  have hB : Below w.heap.size w v1 := Below.on' (by go_grown) hb
  replace hX := hX.below hb
  clear b0 b1 b2 hb
  obtain ⟨b0, b1, b2, _, _, _⟩ := id hX
  by_cases g : chanB s r h = true
  rotate_left
  · have g : chanB s r h = false := by simpa using g
    obtain rfl : (0, false) = t := (nxtT_no (by rw [g]; rfl)).symm.trans hT.out
    rw [g]
    go_wp2
    go_ret2
    exact ⟨rfl, hB⟩
  rw [g]
  go_wp2_with fail
  refine (apName_any f _ hsf).mono ?_
  rintro e v2 ⟨rfl, hb⟩
  replace hB := Below.on' hB hb
  replace hX := hX.below hb
  clear b0 b1 b2 hb
  obtain ⟨b0, b1, b2, _, _, _⟩ := id hX
  by_cases g2 : nameB f = true
  rotate_left
  · have g2 : nameB f = false := by simpa using g2
    obtain rfl : (0, false) = t := (nxtT_no (by rw [g, g2]; rfl)).symm.trans hT.out
    rw [g2]
    go_wp2
    go_ret2
    exact ⟨rfl, hB⟩
  rw [g2]
  obtain rfl : (((ordF r f).length : Int) + 1, true) = t := (nxtT_yes (by rw [g, g2]; rfl)).symm.trans hT.out
  have G := ChanG.of g
  have hn : ∀ x ∈ r, x.n ≤ 999 := fun x hx => (G.num x (G.rs x hx)).2
  have hn1 : ∀ x ∈ r, 1 ≤ x.n := fun x hx => (G.num x (G.rs x hx)).1
  clear hT g g2
  go_wp2_with fail
  refine (raNext_any As cs s Ar cr r Ah ch h f _ hlr (hSr.below hB).all hn).mono ?_
  rintro e v3 ⟨rfl, hb⟩
  have hB3 := Below.on' hB hb
  go_wp2
  go_ret2
  exact ⟨rfl, hB3⟩
set_option maxRecDepth 100000 in
set_option maxHeartbeats 8000000 in
theorem LastOf_impl (As : Option Addr) (cs : Nat) (s : List Msg) (Ar : Option Addr) (cr : Nat) (r : List Msg) (Ah : Option Addr) (ch : Nat) (h : List Msg) (f : ByteArray) (w : World) (hls : s.length ≤ 1048576) (hms : ∀ y ∈ s, y.f.size ≤ 1048576 ∧ y.b.size ≤ 1048576) (hSs : Msgs w 0 w.heap.size As s) (hcs : s.length ≤ cs) (hlr : r.length ≤ 1048576) (hmr : ∀ y ∈ r, y.f.size ≤ 1048576 ∧ y.b.size ≤ 1048576) (hSr : Msgs w 0 w.heap.size Ar r) (hcr : r.length ≤ cr) (hlh : h.length ≤ 1048576) (hmh : ∀ y ∈ h, y.f.size ≤ 1048576 ∧ y.b.size ≤ 1048576) (hSh : Msgs w 0 w.heap.size Ah h) (hch : h.length ≤ ch) (hsf : f.size ≤ 1048576) :
    Calls Try.prog 15 #[.agg #[.slice As s.length cs, .slice Ar r.length cr, .slice Ah h.length ch], .string f] w (RV w (.tuple #[.agg #[.string (lasT s r h f).1.f, .int .i64 (lasT s r h f).1.n, .string (lasT s r h f).1.b], .bool (lasT s r h f).2])) := by
  generalize hT : lasT s r h f = t
  replace hT := Lib.hid hT
  have hX := (B3.new w (.slice As s.length cs) (.slice Ar r.length cr) (.slice Ah h.length ch) 26 _ rfl).alloc (.cells #[.string ⟨#[]⟩, .int .i64 0, .string ⟨#[]⟩] 33)
  have hR := B3.new (w.alloc (.cells #[.slice As s.length cs, .slice Ar r.length cr, .slice Ah h.length ch] 26)) (.string ⟨#[]⟩) (.int .i64 0) (.string ⟨#[]⟩) 33 (w.heap.size + 1) (by simp)
  obtain ⟨b0, b1, b2, _, _, _⟩ := id hX
  go_enter Try.func15, Try.ntmps15
  go_wp2_with fail
  refine (isChannel_any w.heap.size 0 As cs s Ar cr r Ah ch h _ hX.c3 hls hms ((hSs.alloc _).alloc _).all hcs hlr hmr ((hSr.alloc _).alloc _).all hcr hlh hmh ((hSh.alloc _).alloc _).all hch).mono ?_
  rintro e v1 ⟨rfl, hb⟩
  have hB : Below w.heap.size w v1 := Below.on' (by go_grown) hb
  replace hX := hX.below hb
  replace hR := hR.below hb
  clear b0 b1 b2 hb
  obtain ⟨b0, b1, b2, _, _, _⟩ := id hX
  by_cases g : chanB s r h = true
  rotate_left
  · have g : chanB s r h = false := by simpa using g
    obtain rfl : (msg0, false) = t := (lasT_no (by rw [g]; rfl)).symm.trans hT.out
    rw [g]
    obtain ⟨k0, k1, k2, f0, f1, f2⟩ := id hR
    have hR' := ((hR.set0 (.string ⟨#[]⟩)).set1 (.int .i64 0)).set2 (.string ⟨#[]⟩)
    obtain ⟨x0, x1, x2, _, _, _⟩ := id hR'
    go_wp2
    refine bodyPost_ret (by simp [results, Try.results15, go_sem, x0, x1, x2]; try rfl) rfl ?_
    exact ⟨rfl, by go_grown⟩
  rw [g]
  go_wp2_with fail
  refine (isName_any f _ hsf).mono ?_
  rintro e v2 ⟨rfl, hb⟩
  replace hB := Below.on' hB hb
  replace hX := hX.below hb
  replace hR := hR.below hb
  clear b0 b1 b2 hb
  obtain ⟨b0, b1, b2, _, _, _⟩ := id hX
  by_cases g2 : nameB f = true
  rotate_left
  · have g2 : nameB f = false := by simpa using g2
    obtain rfl : (msg0, false) = t := (lasT_no (by rw [g, g2]; rfl)).symm.trans hT.out
    rw [g2]
    obtain ⟨k0, k1, k2, f0, f1, f2⟩ := id hR
    have hR' := ((hR.set0 (.string ⟨#[]⟩)).set1 (.int .i64 0)).set2 (.string ⟨#[]⟩)
    obtain ⟨x0, x1, x2, _, _, _⟩ := id hR'
    go_wp2
    refine bodyPost_ret (by simp [results, Try.results15, go_sem, x0, x1, x2]; try rfl) rfl ?_
    exact ⟨rfl, by go_grown⟩
  rw [g2]
  obtain rfl : (lastF r f, decide (0 < (lastF r f).n)) = t := (lasT_yes (by rw [g, g2]; rfl)).symm.trans hT.out
  have G := ChanG.of g
  have hn : ∀ x ∈ r, x.n ≤ 999 := fun x hx => (G.num x (G.rs x hx)).2
  have hn1 : ∀ x ∈ r, 1 ≤ x.n := fun x hx => (G.num x (G.rs x hx)).1
  clear hT g g2
  clear b0 b1 b2
  obtain ⟨b0, b1, b2, _, _, _⟩ := hX.alloc (.cells #[.string ⟨#[]⟩, .int .i64 0, .string ⟨#[]⟩] 33)
  have hS2 := (hSr.below hB).alloc (.cells #[.string ⟨#[]⟩, .int .i64 0, .string ⟨#[]⟩] 33)
  have hM := B3.new v2 (.string ⟨#[]⟩) (.int .i64 0) (.string ⟨#[]⟩) 33 _ rfl
  have hMR : w.heap.size + 1 < v2.heap.size := hR.lt
  have hsz := hB.size
  replace hR := hR.alloc (.cells #[.string ⟨#[]⟩, .int .i64 0, .string ⟨#[]⟩] 33)
  have hB2 : Below w.heap.size w (v2.alloc (.cells #[.string ⟨#[]⟩, .int .i64 0, .string ⟨#[]⟩] 33)) := by go_grown
  go_wp2_with fail
  generalize v2.alloc (.cells #[.string ⟨#[]⟩, .int .i64 0, .string ⟨#[]⟩] 33) = W at hM hR hB2 hS2 ⊢
  generalize v2.heap.size = M at hM hMR ⊢
  clear b0 b1 b2 hX hB
  go_loopw [21] (fun i wr => ∃ q : Nat, q ≤ r.length ∧ i = .int .i64 q ∧ B3 M (.string (lastF (r.take q) f).f) (.int .i64 (lastF (r.take q) f).n) (.string (lastF (r.take q) f).b) wr ∧ B3 (w.heap.size + 1) (.string ⟨#[]⟩) (.int .i64 0) (.string ⟨#[]⟩) wr ∧ Below w.heap.size w wr) (fun i _ => r.length - (intOf i).toNat)
  case atStart => exact ⟨0, Nat.zero_le _, rfl, hM, hR, hB2⟩
  case round =>
    obtain ⟨q, hq, rfl, hM, hR, hB⟩ := hrel
    by_cases hlt : q < r.length
    · obtain ⟨x, hx1, hx2⟩ := get_lt hlt
      obtain ⟨b, off, rfl, _, _, _, hf⟩ := (hSr.below hB).at_ hx1
      have c0 : wr.cell? ⟨b, off + q * 3, none⟩ = some (.string x.f) := (hf 0 _ rfl).1
      have c1 : wr.cell? ⟨b, off + q * 3 + 1, none⟩ = some (.int .i64 x.n) := (hf 1 _ rfl).1
      have c2 : wr.cell? ⟨b, off + q * 3 + 2, none⟩ = some (.string x.b) := (hf 2 _ rfl).1
      have hst : lastF (r.take (q + 1)) f = lastStep f (lastF (r.take q) f) x := by rw [take_snoc hx1, lastF_snoc]
      have hx3 := hn x hx2
      have hx4 := hn1 x hx2
      clear hf hx1 hx2
      replace hst := Lib.hid hst
      generalize lastF (r.take q) f = bst at hM hst
      have hM' := hM.alloc (.cells #[.string x.f, .int .i64 x.n, .string x.b] 33)
      have hR2 := hR.alloc (.cells #[.string x.f, .int .i64 x.n, .string x.b] 33)
      have hML := hM.lt
      obtain ⟨m0, m1, m2, g0, g1, g2⟩ := id hM
      by_cases hs : x.f.toList = f.toList
      · by_cases hnn : bst.n < x.n
        · replace hst : Hid (lastF (r.take (q + 1)) f = x) := Lib.hid (by rw [hst.out, lastStep, if_pos (by simp [hs, hnn])])
          go_wp2
          go_roundw
          case rel =>
            exact ⟨q + 1, by omega, by go_num, by rw [hst.out]; exact (((hM.set0 _).set1 _).set2 _).alloc _, (((hR.off (p := ⟨M, 0, none⟩) (by simp; omega) _).off (p := ⟨M, 1, none⟩) (by simp; omega) _).off (p := ⟨M, 2, none⟩) (by simp; omega) _).alloc _, by go_grown⟩
          case measure => simp [intOf]; omega
        · replace hst : Hid (lastF (r.take (q + 1)) f = bst) := Lib.hid (by rw [hst.out, lastStep, if_neg (by simp [hnn])])
          go_wp2
          go_roundw
          case rel =>
            exact ⟨q + 1, by omega, by go_num, by rw [hst.out]; exact hM', hR2, by go_grown⟩
          case measure => simp [intOf]; omega
      · replace hst : Hid (lastF (r.take (q + 1)) f = bst) := Lib.hid (by rw [hst.out, lastStep, if_neg (by simp [hs])])
        have hs' : (x.f.toList == f.toList) = false := by simpa using hs
        clear hs
        go_wp2
        go_roundw
        case rel =>
          exact ⟨q + 1, by omega, by go_num, by rw [hst.out]; exact hM', hR2, by go_grown⟩
        case measure => simp [intOf]; omega
    · have hq' : r.take q = r := List.take_of_length_le (by omega)
      rw [hq'] at hM
      have hz := last_zero (r := r) (f := f)
      replace hz := Lib.hid hz
      obtain ⟨bst, HL⟩ : ∃ bst, Hid (lastF r f = bst) := ⟨_, Lib.hid rfl⟩
      rw [HL.out] at hM hz
      have hML := hM.lt
      obtain ⟨m0, m1, m2, g0, g1, g2⟩ := id hM
      obtain ⟨k0, k1, k2, f0, f1, f2⟩ := id hR
      have hR' := ((hR.set0 (.string bst.f)).set1 (.int .i64 bst.n)).set2 (.string bst.b)
      obtain ⟨x0, x1, x2, _, _, _⟩ := id hR'
      have hMne : M ≠ w.heap.size + 1 := by omega
      obtain ⟨n0, n1, n2, _, _, _⟩ := (((hM.off (p := ⟨w.heap.size + 1, 0, none⟩) (fun e => hMne e.symm) (.string bst.f)).off (p := ⟨w.heap.size + 1, 1, none⟩) (fun e => hMne e.symm) (.int .i64 bst.n)).off (p := ⟨w.heap.size + 1, 2, none⟩) (fun e => hMne e.symm) (.string bst.b))
      go_wp2
      go_region
      all_goals go_wp2
      all_goals refine bodyPost_ret (by simp [results, Try.results15, go_sem, x0, x1, x2]; try rfl) rfl ?_
      all_goals exact ⟨by rw [HL.out], by go_grown⟩
set_option maxRecDepth 100000 in
set_option maxHeartbeats 8000000 in
theorem LastOf_spec (As : Option Addr) (cs : Nat) (s : List Msg) (Ar : Option Addr) (cr : Nat) (r : List Msg) (Ah : Option Addr) (ch : Nat) (h : List Msg) (f : ByteArray) (w : World) (hls : s.length ≤ 1048576) (hms : ∀ y ∈ s, y.f.size ≤ 1048576 ∧ y.b.size ≤ 1048576) (hSs : Msgs w 0 w.heap.size As s) (hcs : s.length ≤ cs) (hlr : r.length ≤ 1048576) (hmr : ∀ y ∈ r, y.f.size ≤ 1048576 ∧ y.b.size ≤ 1048576) (hSr : Msgs w 0 w.heap.size Ar r) (hcr : r.length ≤ cr) (hlh : h.length ≤ 1048576) (hmh : ∀ y ∈ h, y.f.size ≤ 1048576 ∧ y.b.size ≤ 1048576) (hSh : Msgs w 0 w.heap.size Ah h) (hch : h.length ≤ ch) (hsf : f.size ≤ 1048576) :
    Calls Try.prog 16 #[.agg #[.slice As s.length cs, .slice Ar r.length cr, .slice Ah h.length ch], .string f] w (RV w (.tuple #[.agg #[.string (lasT s r h f).1.f, .int .i64 (lasT s r h f).1.n, .string (lasT s r h f).1.b], .bool (lasT s r h f).2])) := by
  generalize hT : lasT s r h f = t
  replace hT := Lib.hid hT
  have hX := (B3.new w (.slice As s.length cs) (.slice Ar r.length cr) (.slice Ah h.length ch) 26 _ rfl).alloc (.cells #[.string ⟨#[]⟩, .int .i64 0, .string ⟨#[]⟩] 33)
  have hR := B3.new (w.alloc (.cells #[.slice As s.length cs, .slice Ar r.length cr, .slice Ah h.length ch] 26)) (.string ⟨#[]⟩) (.int .i64 0) (.string ⟨#[]⟩) 33 (w.heap.size + 1) (by simp)
  obtain ⟨b0, b1, b2, _, _, _⟩ := id hX
  go_enter Try.func16, Try.ntmps16
  go_wp2_with fail
  refine (raGood_any As cs s Ar cr r Ah ch h _ hls hms ((hSs.alloc _).alloc _).all hcs hlr hmr ((hSr.alloc _).alloc _).all hcr hlh hmh ((hSh.alloc _).alloc _).all hch).mono ?_
  rintro e v1 ⟨rfl, hb⟩
  have hB : Below w.heap.size w v1 := Below.on' (by go_grown) hb
  replace hX := hX.below hb
  replace hR := hR.below hb
  clear b0 b1 b2 hb
  obtain ⟨b0, b1, b2, _, _, _⟩ := id hX
  by_cases g : chanB s r h = true
  rotate_left
  · have g : chanB s r h = false := by simpa using g
    obtain rfl : (msg0, false) = t := (lasT_no (by rw [g]; rfl)).symm.trans hT.out
    rw [g]
    obtain ⟨k0, k1, k2, f0, f1, f2⟩ := id hR
    have hR' := ((hR.set0 (.string ⟨#[]⟩)).set1 (.int .i64 0)).set2 (.string ⟨#[]⟩)
    obtain ⟨x0, x1, x2, _, _, _⟩ := id hR'
    go_wp2
    refine bodyPost_ret (by simp [results, Try.results16, go_sem, x0, x1, x2]; try rfl) rfl ?_
    exact ⟨rfl, by go_grown⟩
  rw [g]
  go_wp2_with fail
  refine (apName_any f _ hsf).mono ?_
  rintro e v2 ⟨rfl, hb⟩
  replace hB := Below.on' hB hb
  replace hX := hX.below hb
  replace hR := hR.below hb
  clear b0 b1 b2 hb
  obtain ⟨b0, b1, b2, _, _, _⟩ := id hX
  by_cases g2 : nameB f = true
  rotate_left
  · have g2 : nameB f = false := by simpa using g2
    obtain rfl : (msg0, false) = t := (lasT_no (by rw [g, g2]; rfl)).symm.trans hT.out
    rw [g2]
    obtain ⟨k0, k1, k2, f0, f1, f2⟩ := id hR
    have hR' := ((hR.set0 (.string ⟨#[]⟩)).set1 (.int .i64 0)).set2 (.string ⟨#[]⟩)
    obtain ⟨x0, x1, x2, _, _, _⟩ := id hR'
    go_wp2
    refine bodyPost_ret (by simp [results, Try.results16, go_sem, x0, x1, x2]; try rfl) rfl ?_
    exact ⟨rfl, by go_grown⟩
  rw [g2]
  obtain rfl : (lastF r f, decide (0 < (lastF r f).n)) = t := (lasT_yes (by rw [g, g2]; rfl)).symm.trans hT.out
  have G := ChanG.of g
  have hn : ∀ x ∈ r, x.n ≤ 999 := fun x hx => (G.num x (G.rs x hx)).2
  have hn1 : ∀ x ∈ r, 1 ≤ x.n := fun x hx => (G.num x (G.rs x hx)).1
  clear hT g g2
  clear b0 b1 b2
  obtain ⟨b0, b1, b2, _, _, _⟩ := hX.alloc (.cells #[.string ⟨#[]⟩, .int .i64 0, .string ⟨#[]⟩] 33)
  have hS2 := (hSr.below hB).alloc (.cells #[.string ⟨#[]⟩, .int .i64 0, .string ⟨#[]⟩] 33)
  have hM := B3.new v2 (.string ⟨#[]⟩) (.int .i64 0) (.string ⟨#[]⟩) 33 _ rfl
  have hMR : w.heap.size + 1 < v2.heap.size := hR.lt
  have hsz := hB.size
  replace hR := hR.alloc (.cells #[.string ⟨#[]⟩, .int .i64 0, .string ⟨#[]⟩] 33)
  have hB2 : Below w.heap.size w (v2.alloc (.cells #[.string ⟨#[]⟩, .int .i64 0, .string ⟨#[]⟩] 33)) := by go_grown
  go_wp2_with fail
  generalize v2.alloc (.cells #[.string ⟨#[]⟩, .int .i64 0, .string ⟨#[]⟩] 33) = W at hM hR hB2 hS2 ⊢
  generalize v2.heap.size = M at hM hMR ⊢
  clear b0 b1 b2 hX hB
  go_loopw [22] (fun i wr => ∃ q : Nat, q ≤ r.length ∧ i = .int .i64 q ∧ B3 M (.string (lastF (r.take q) f).f) (.int .i64 (lastF (r.take q) f).n) (.string (lastF (r.take q) f).b) wr ∧ B3 (w.heap.size + 1) (.string ⟨#[]⟩) (.int .i64 0) (.string ⟨#[]⟩) wr ∧ Below w.heap.size w wr) (fun i _ => r.length - (intOf i).toNat)
  case atStart => exact ⟨0, Nat.zero_le _, rfl, hM, hR, hB2⟩
  case round =>
    obtain ⟨q, hq, rfl, hM, hR, hB⟩ := hrel
    by_cases hlt : q < r.length
    · obtain ⟨x, hx1, hx2⟩ := get_lt hlt
      obtain ⟨b, off, rfl, _, _, _, hf⟩ := (hSr.below hB).at_ hx1
      have c0 : wr.cell? ⟨b, off + q * 3, none⟩ = some (.string x.f) := (hf 0 _ rfl).1
      have c1 : wr.cell? ⟨b, off + q * 3 + 1, none⟩ = some (.int .i64 x.n) := (hf 1 _ rfl).1
      have c2 : wr.cell? ⟨b, off + q * 3 + 2, none⟩ = some (.string x.b) := (hf 2 _ rfl).1
      have hst : lastF (r.take (q + 1)) f = lastStep f (lastF (r.take q) f) x := by rw [take_snoc hx1, lastF_snoc]
      have hx3 := hn x hx2
      have hx4 := hn1 x hx2
      clear hf hx1 hx2
      replace hst := Lib.hid hst
      generalize lastF (r.take q) f = bst at hM hst
      have hM' := hM.alloc (.cells #[.string x.f, .int .i64 x.n, .string x.b] 33)
      have hR2 := hR.alloc (.cells #[.string x.f, .int .i64 x.n, .string x.b] 33)
      have hML := hM.lt
      obtain ⟨m0, m1, m2, g0, g1, g2⟩ := id hM
      by_cases hs : x.f.toList = f.toList
      · by_cases hnn : bst.n < x.n
        · replace hst : Hid (lastF (r.take (q + 1)) f = x) := Lib.hid (by rw [hst.out, lastStep, if_pos (by simp [hs, hnn])])
          go_wp2
          go_roundw
          case rel =>
            exact ⟨q + 1, by omega, by go_num, by rw [hst.out]; exact (((hM.set0 _).set1 _).set2 _).alloc _, (((hR.off (p := ⟨M, 0, none⟩) (by simp; omega) _).off (p := ⟨M, 1, none⟩) (by simp; omega) _).off (p := ⟨M, 2, none⟩) (by simp; omega) _).alloc _, by go_grown⟩
          case measure => simp [intOf]; omega
        · replace hst : Hid (lastF (r.take (q + 1)) f = bst) := Lib.hid (by rw [hst.out, lastStep, if_neg (by simp [hnn])])
          go_wp2
          go_roundw
          case rel =>
            exact ⟨q + 1, by omega, by go_num, by rw [hst.out]; exact hM', hR2, by go_grown⟩
          case measure => simp [intOf]; omega
      · replace hst : Hid (lastF (r.take (q + 1)) f = bst) := Lib.hid (by rw [hst.out, lastStep, if_neg (by simp [hs])])
        have hs' : (x.f.toList == f.toList) = false := by simpa using hs
        clear hs
        go_wp2
        go_roundw
        case rel =>
          exact ⟨q + 1, by omega, by go_num, by rw [hst.out]; exact hM', hR2, by go_grown⟩
        case measure => simp [intOf]; omega
    · have hq' : r.take q = r := List.take_of_length_le (by omega)
      rw [hq'] at hM
      have hz := last_zero (r := r) (f := f)
      replace hz := Lib.hid hz
      obtain ⟨bst, HL⟩ : ∃ bst, Hid (lastF r f = bst) := ⟨_, Lib.hid rfl⟩
      rw [HL.out] at hM hz
      have hML := hM.lt
      obtain ⟨m0, m1, m2, g0, g1, g2⟩ := id hM
      obtain ⟨k0, k1, k2, f0, f1, f2⟩ := id hR
      by_cases h0 : 0 < bst.n
      · have hR' := ((hR.set0 (.string bst.f)).set1 (.int .i64 bst.n)).set2 (.string bst.b)
        obtain ⟨x0, x1, x2, _, _, _⟩ := id hR'
        have h1 : ¬ bst.n = 0 := by omega
        go_wp2
        refine bodyPost_ret (by simp [results, Try.results16, go_sem, x0, x1, x2]; try rfl) rfl ?_
        exact ⟨by rw [HL.out]; simp [h0], by go_grown⟩
      · have hb0 := hz.out h0
        subst hb0
        have hR' := ((hR.set0 (.string ⟨#[]⟩)).set1 (.int .i64 0)).set2 (.string ⟨#[]⟩)
        obtain ⟨x0, x1, x2, _, _, _⟩ := id hR'
        clear hz
        simp only [msg0] at m0 m1 m2 ⊢
        go_wp2
        refine bodyPost_ret (by simp [results, Try.results16, go_sem, x0, x1, x2]; try rfl) rfl ?_
        exact ⟨by rw [HL.out]; rfl, by go_grown⟩
end Go.Proofs.Ytacjdapfbmdddaa

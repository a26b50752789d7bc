/- InOrder, on both sides. Condition: at most 2^20 messages in each list, texts of at most 2^20. -/
import Derived.Test.YtacjdapfbmdddaaChanL
import Derived.Test.YtacjdapfbmdddaaStrs
namespace Go.Proofs.Ytacjdapfbmdddaa
open Go.RowKit

def ordT (s r h : List Msg) (f : ByteArray) : List ByteArray × Bool := if (chanB s r h && nameB f) = true then (ordF r f, true) else ([], false)
theorem ordT_len {s r h : List Msg} {f : ByteArray} : (ordT s r h f).1.length ≤ 1048576 := by
  unfold ordT
  split
  · have := ordF_len r f; dsimp only; omega
  · simp
theorem ordT_no {s r h : List Msg} {f : ByteArray} (hg : (chanB s r h && nameB f) = false) : (([], false) : List ByteArray × Bool) = ordT s r h f := by rw [ordT, hg]; rfl
theorem ordT_yes {s r h : List Msg} {f : ByteArray} (hg : (chanB s r h && nameB f) = true) : (ordF r f, true) = ordT s r h f := by rw [ordT, if_pos hg]
theorem sl_oneS (w : World) (x : ByteArray) : Strs (w.alloc (.cells #[.string x] 9)) 0 (w.alloc (.cells #[.string x] 9)).heap.size (some ⟨w.heap.size, 0, none⟩) [x] := fun _ => by
  refine ⟨w.heap.size, 0, rfl, Nat.zero_le _, by simp, Nat.le_refl _, fun i y hy j v hv => ?_⟩
  cases i with
  | zero =>
    obtain rfl : x = y := by simpa using hy
    have := new_cells (E := Strs.cells) w 9 x _ rfl j v hv
    rw [show 0 + 0 * 1 + j = j by omega]
    exact ⟨this, World.frozen?_alloc_at _ _ _ _ rfl⟩
  | succ i => simp at hy
def lenV : Value → Nat
  | .slice _ n _ => n
  | _ => 0
theorem received1_any (x : Msg) (p1 p2 : Nat) (f : ByteArray) (n : Int) (w : World) (q1 : w.cell? ⟨p1, 0, none⟩ = some (.string f)) (q2 : w.cell? ⟨p2, 0, none⟩ = some (.int .i64 n)) :
    Calls Try.prog 59 #[.agg #[.string x.f, .int .i64 x.n, .string x.b], .pointer (some ⟨p1, 0, none⟩), .pointer (some ⟨p2, 0, none⟩)] w fun e w' => e = .returned (.bool (keyP f n x)) ∧ Below w.heap.size w w' := by
  have k1 : p1 < w.heap.size := World.block_lt_of_cell? _ _ q1
  have k2 : p2 < w.heap.size := World.block_lt_of_cell? _ _ q2
  by_cases hs : x.f.toList = f.toList
  · have HF : Hid (keyP f n x = decide (x.n = n)) := Lib.hid (by simp [keyP, hs])
    go_enter Try.func59, Try.ntmps59
    go_wp2
    go_ret
    exact ⟨by rw [HF.out]; first | rfl | (congr 2; simp), by go_grown⟩
  · have HF : Hid (keyP f n x = false) := Lib.hid (by simp [keyP, hs])
    have hs' : (x.f.toList == f.toList) = false := by simpa using hs
    clear hs
    go_enter Try.func59, Try.ntmps59
    go_wp2
    go_ret
    exact ⟨by rw [HF.out]; rfl, by go_grown⟩
theorem received1_enters : Enters 59 := enters Try.func59 (by kernel_rfl) (by kernel_rfl)
set_option maxHeartbeats 2000000 in
theorem received_any (pb po : Nat) (vs vh : Value) (Ar : Option Addr) (cr : Nat) (r : List Msg) (f : ByteArray) (n : Int) (w : World) (hX : C3 pb po vs (.slice Ar r.length cr) vh w) (hlr : r.length ≤ 1048576) (hSr : Msgs w 0 w.heap.size Ar r) :
    Calls Try.prog 53 #[.pointer (some ⟨pb, po, none⟩), .string f, .int .i64 n] w (RV w (.int .i64 (idxG (keyP f n) r 0))) := by
  have hX1 := (hX.alloc (.cells #[.string f] 9)).alloc (.cells #[.int .i64 n] 3)
  have hpb := hX.lt
  have q1 : ((w.alloc (.cells #[.string f] 9)).alloc (.cells #[.int .i64 n] 3)).cell? ⟨w.heap.size, 0, none⟩ = some (.string f) := lay _ (by simp)
  have q2 : ((w.alloc (.cells #[.string f] 9)).alloc (.cells #[.int .i64 n] 3)).cell? ⟨w.heap.size + 1, 0, none⟩ = some (.int .i64 n) := by rw [World.cell?_alloc_at _ _ _ _ (by simp)]; rfl
  have hS1 := (hSr.alloc (.cells #[.string f] 9)).alloc (.cells #[.int .i64 n] 3)
  have hB0 : Below w.heap.size w ((w.alloc (.cells #[.string f] 9)).alloc (.cells #[.int .i64 n] 3)) := by go_grown
  obtain ⟨b0, b1, b2, _, _, _⟩ := id hX1
  go_enter Try.func53, Try.ntmps53
  go_wp2_with fail
  generalize (w.alloc (.cells #[.string f] 9)).alloc (.cells #[.int .i64 n] 3) = W at q1 q2 hS1 hB0 ⊢
  have hP : Msg.Pred 59 #[.pointer (some ⟨w.heap.size, 0, none⟩), .pointer (some ⟨w.heap.size + 1, 0, none⟩)] (keyP f n) 0 0 r W := fun V x _ hF =>
    received1_any x _ _ f n V ((World.cell?_of_block (hF.block _ (World.block_lt_of_cell? _ _ q1) (by omega))).trans q1) ((World.cell?_of_block (hF.block _ (World.block_lt_of_cell? _ _ q2) (by omega))).trans q2)
  refine (Msg.IndexFunc_any _ _ (keyP f n) Ar cr _ _ 0 0 r W received1_enters hlr hS1 hP).mono ?_
  rintro e w1 ⟨rfl, hb⟩
  clear hP q1 q2
  go_wp2
  go_ret
  exact RV.mk rfl (Below.on' hB0 hb)
set_option maxHeartbeats 4000000 in
theorem inOrder_any (pb po : Nat) (vs vh : Value) (Ar : Option Addr) (cr : Nat) (r : List Msg) (f : ByteArray) (w : World) (hX : C3 pb po vs (.slice Ar r.length cr) vh w) (hlr : r.length ≤ 1048576) (hSr : Msgs w 0 w.heap.size Ar r) (hn : ∀ x ∈ r, x.n ≤ 999) :
    Calls Try.prog 35 #[.pointer (some ⟨pb, po, none⟩), .string f] w (RS1 Strs.cells 1 w (ordF r f)) := by
  obtain ⟨i0, hi0, hz0, hz1, hz2⟩ := info_parts Strs.info
  have hpb := hX.lt
  go_enter Try.func35, Try.ntmps35
  go_wp2_with fail
  refine (received_any pb po vs vh Ar cr r f 1 _ hX hlr hSr).mono ?_
  rintro e w0 ⟨rfl, hb⟩
  have hX0 := hX.below hb
  obtain ⟨v0, HV⟩ : ∃ v0, Hid (v0 = idxG (keyP f 1) r 0) := ⟨_, Lib.hid rfl⟩
  rw [← HV.out]
  have hB0 : Below w.heap.size w w0 := hb
  clear hb
  go_wp2_with fail
  go_loopw [5, 6] (fun o i wr => ∃ (L : List ByteArray) (A : Option Addr) (c : Nat) (v : Int), o = .slice A L.length c ∧ i = .int .i64 v ∧ L.length ≤ 999 ∧ Own Strs.cells 1 9 wr w.heap.size A c L ∧ Hid (ordF r f = L ++ ordL r f (1000 - L.length) (L.length + 1)) ∧ Hid (v = idxG (keyP f ((L.length + 1 : Nat) : Int)) r 0) ∧ C3 pb po vs (.slice Ar r.length cr) vh wr ∧ Below w.heap.size w wr) (fun o _ _ => 1000 - lenV o)
  case atStart => exact ⟨[], none, 0, v0, rfl, rfl, Nat.zero_le _, Own.nil_, Lib.hid rfl, Lib.hid HV.out, hX0, hB0⟩
  case round =>
    clear hX0 HV hB0
    obtain ⟨L, A, c, v, rfl, rfl, hL, hO, HX, HV, hX, hB⟩ := hrel
    have hz := hB.size
    obtain ⟨b0, b1, b2, _, _, _⟩ := id hX
    rcases find_idx (keyP f ((L.length + 1 : Nat) : Int)) r 0 with ⟨e1, hf⟩ | ⟨j, x, hj, e1, hf, _⟩
    · have HE := Lib.hid (ordF_end HX.out hf)
      obtain rfl : v = -1 := HV.out.trans e1
      clear HX HV e1 hf
      go_wp2
      go_ret
      exact RS1.own HE.out rfl Strs.len hO hB
    · obtain ⟨hL9, hnx⟩ := ordF_next hn rfl HX.out hf
      obtain rfl : v = (j : Int) := by rw [HV.out, e1, Nat.zero_add]
      have HN := Lib.hid hnx
      have hjl : j < r.length := (List.getElem?_eq_some_iff.1 hj).1
      obtain ⟨b, off, rfl, _, kb, _, hg⟩ := (hSr.below hB).at_ hj
      have d2 : wr.cell? ⟨b, off + j * 3 + 2, none⟩ = some (.string x.b) := (hg 2 _ rfl).1
      clear HX HV e1 hf hnx hg hj
      have hk0 : b < wr.heap.size := by omega
      go_wp2_with (at_builtin; refine wpList_append_one _ rfl (.tmp 18) (.tmp 27) _ rfl i0 _ _ Try.underlying37 hi0 hz0 hz1 hz2 rfl (by omega) Strs.len Strs.one x.b _ (hO.alloc _) rfl rfl (new_cells _ _ _ _ rfl) (by unfold maxLen; omega) (by omega) (by first | omega | (simp; omega)) ?_; intro A' c' w1 L' hL' hO1 hB1; have hX1 := (hX.alloc (.cells #[.string x.b] 9)).upto hpb hB1; have hBw := (hB.alloc hB.size (.cells #[.string x.b] 9)).trans hB1)
      have hl : L.length + 1 = L'.length := by rw [hL'.out]; simp
      have hle : L'.length ≤ 999 := by omega
      have HX' : Hid (ordF r f = L' ++ ordL r f (1000 - L'.length) (L'.length + 1)) := Lib.hid (by have := HN.out; rw [← hL'.out, hl] at this; exact this)
      rw [show wrap64 ((L'.length : Int) + 1) = ((L'.length + 1 : Nat) : Int) by unfold wrap64; omega]
      refine (received_any pb po vs vh _ cr r f _ _ hX1 hlr (hSr.below hBw).all).mono ?_
      rintro e w2 ⟨rfl, hb⟩
      obtain ⟨v2, HV2⟩ : ∃ v2, Hid (v2 = idxG (keyP f ((L'.length + 1 : Nat) : Int)) r 0) := ⟨_, Lib.hid rfl⟩
      rw [← HV2.out]
      have hX2 := hX1.below hb
      have hO2 := hO1.below hb
      have hB2 := Below.on' hBw hb
      replace hl := Lib.hid hl
      clear hX hO hB hX1 hO1 hB1 hBw hb HN hL' b0 b1 b2 d2
      go_wp2
      go_roundw
      case rel => exact ⟨L', A', c', v2, rfl, rfl, hle, hO2, HX', HV2, hX2, hB2⟩
      case measure => have := hl.out; simp [lenV]; omega
set_option maxRecDepth 100000 in
set_option maxHeartbeats 8000000 in
theorem InOrder_impl (As : Option Addr) (cs : Nat) (s : List Msg) (Ar : Option Addr) (cr : Nat) (r : List Msg) (Ah : Option Addr) (ch : Nat) (h : List Msg) (f : ByteArray) (w : World) (hls : s.length ≤ 1048576) (hms : ∀ y ∈ s, y.f.size ≤ 1048576 ∧ y.b.size ≤ 1048576) (hSs : Msgs w 0 w.heap.size As s) (hcs : s.length ≤ cs) (hlr : r.length ≤ 1048576) (hmr : ∀ y ∈ r, y.f.size ≤ 1048576 ∧ y.b.size ≤ 1048576) (hSr : Msgs w 0 w.heap.size Ar r) (hcr : r.length ≤ cr) (hlh : h.length ≤ 1048576) (hmh : ∀ y ∈ h, y.f.size ≤ 1048576 ∧ y.b.size ≤ 1048576) (hSh : Msgs w 0 w.heap.size Ah h) (hch : h.length ≤ ch) (hsf : f.size ≤ 1048576) :
    Calls Try.prog 11 #[.agg #[.slice As s.length cs, .slice Ar r.length cr, .slice Ah h.length ch], .string f] w (RS2 Strs.cells 1 w (ordT s r h f).1 (ordT s r h f).2) := by
  generalize hT : ordT s r h f = t
  replace hT := Lib.hid hT
  have hX := B3.new w (.slice As s.length cs) (.slice Ar r.length cr) (.slice Ah h.length ch) 26 _ rfl
  obtain ⟨b0, b1, b2, _, _, _⟩ := id hX
  go_enter Try.func11, Try.ntmps11
  go_wp2_with fail
  refine (isChannel_any w.heap.size 0 As cs s Ar cr r Ah ch h _ hX.c3 hls hms (hSs.alloc _).all hcs hlr hmr (hSr.alloc _).all hcr hlh hmh (hSh.alloc _).all hch).mono ?_
  rintro e v1 ⟨rfl, hb⟩
  have hB : Below w.heap.size w v1 := Below.on' (by go_grown) hb
  replace hX := hX.below hb
  clear b0 b1 b2 hb
  obtain ⟨b0, b1, b2, _, _, _⟩ := id hX
  by_cases g : chanB s r h = true
  rotate_left
  · have g : chanB s r h = false := by simpa using g
    obtain rfl : ([], false) = t := (ordT_no (by rw [g]; rfl)).trans hT.out
    rw [g]
    go_wp2
    go_ret2
    exact RS2.nil_ rfl rfl hB
  rw [g]
  go_wp2_with fail
  refine (isName_any f _ hsf).mono ?_
  rintro e v2 ⟨rfl, hb⟩
  replace hB := Below.on' hB hb
  replace hX := hX.below hb
  clear b0 b1 b2 hb
  obtain ⟨b0, b1, b2, _, _, _⟩ := id hX
  by_cases g2 : nameB f = true
  rotate_left
  · have g2 : nameB f = false := by simpa using g2
    obtain rfl : ([], false) = t := (ordT_no (by rw [g, g2]; rfl)).trans hT.out
    rw [g2]
    go_wp2
    go_ret2
    exact RS2.nil_ rfl rfl hB
  rw [g2]
  obtain rfl : (ordF r f, true) = t := (ordT_yes (by rw [g, g2]; rfl)).trans hT.out
  have G := ChanG.of g
  have hn : ∀ x ∈ r, x.n ≤ 999 := fun x hx => (G.num x (G.rs x hx)).2
  clear hT g g2
  go_wp2_with fail
  refine (inOrder_any w.heap.size 0 _ _ Ar cr r f _ hX.c3 hlr (hSr.below hB).all hn).mono ?_
  rintro e v3 ⟨A, c, rfl, hS, hc, hb⟩
  have hz := hB.size
  have hB3 := Below.on' hB hb
  go_wp2
  go_ret2
  exact RS2.of rfl rfl rfl hS hz hc hB3
set_option maxHeartbeats 2000000 in
theorem raNext_any (As : Option Addr) (cs : Nat) (s : List Msg) (Ar : Option Addr) (cr : Nat) (r : List Msg) (Ah : Option Addr) (ch : Nat) (h : List Msg) (f : ByteArray) (w : World) (hlr : r.length ≤ 1048576) (hSr : Msgs w 0 w.heap.size Ar r) (hn : ∀ x ∈ r, x.n ≤ 999) :
    Calls Try.prog 36 #[.agg #[.slice As s.length cs, .slice Ar r.length cr, .slice Ah h.length ch], .string f] w (RV w (.int .i64 ((ordF r f).length + 1))) := by
  have hX := B3.new w (.slice As s.length cs) (.slice Ar r.length cr) (.slice Ah h.length ch) 26 _ rfl
  have hO := ordF_len r f
  obtain ⟨M, hM⟩ : ∃ M, Hid (M = (ordF r f).length) := ⟨_, Lib.hid rfl⟩
  rw [← hM.out] at hO ⊢
  have hB : Below w.heap.size w (w.alloc (.cells #[.slice As s.length cs, .slice Ar r.length cr, .slice Ah h.length ch] 26)) := by go_grown
  go_enter Try.func36, Try.ntmps36
  go_wp2_with fail
  go_loopw [5] (fun i wr => ∃ k : Nat, 1 ≤ k ∧ k ≤ M + 1 ∧ i = .int .i64 k ∧ B3 w.heap.size (.slice As s.length cs) (.slice Ar r.length cr) (.slice Ah h.length ch) wr ∧ Below w.heap.size w wr) (fun i _ => M + 1 - (intOf i).toNat)
  case atStart => exact ⟨1, Nat.le_refl _, by omega, rfl, hX, hB⟩
  case round =>
    clear hX hB
    obtain ⟨k, hk1, hk2, rfl, hX, hB⟩ := hrel
    obtain ⟨b0, b1, b2, _, _, _⟩ := id hX
    have HF := ordF_find (f := f) hn hk1 (by rw [← hM.out]; exact hk2)
    rw [← hM.out] at HF
    go_wp2_with fail
    refine (raFind_any Ar cr r f k _ hlr (hSr.below hB).all).mono ?_
    rintro e w1 ⟨rfl, hb⟩
    replace hB := Below.on' hB hb
    replace hX := hX.below hb
    clear b0 b1 b2 hb
    rcases find_idx (keyP f (k : Int)) r 0 with ⟨e1, hf⟩ | ⟨j, x, hj, e1, hf, _⟩
    · have hkM : (k : Int) = M + 1 := by
        rw [hf] at HF
        have := of_decide_eq_false HF.symm
        omega
      rw [e1]
      clear hf HF e1
      go_wp2
      go_ret
      exact RV.mk rfl hB
    · have hkM : k ≤ M := by
        rw [hf] at HF
        exact of_decide_eq_true HF.symm
      rw [e1]
      clear hf HF e1 hj
      go_wp2
      go_roundw
      case rel => exact ⟨k + 1, by omega, by omega, by go_num, hX, hB⟩
      case measure => simp [intOf]; omega
set_option maxRecDepth 100000 in
set_option maxHeartbeats 8000000 in
theorem InOrder_spec (As : Option Addr) (cs : Nat) (s : List Msg) (Ar : Option Addr) (cr : Nat) (r : List Msg) (Ah : Option Addr) (ch : Nat) (h : List Msg) (f : ByteArray) (w : World) (hls : s.length ≤ 1048576) (hms : ∀ y ∈ s, y.f.size ≤ 1048576 ∧ y.b.size ≤ 1048576) (hSs : Msgs w 0 w.heap.size As s) (hcs : s.length ≤ cs) (hlr : r.length ≤ 1048576) (hmr : ∀ y ∈ r, y.f.size ≤ 1048576 ∧ y.b.size ≤ 1048576) (hSr : Msgs w 0 w.heap.size Ar r) (hcr : r.length ≤ cr) (hlh : h.length ≤ 1048576) (hmh : ∀ y ∈ h, y.f.size ≤ 1048576 ∧ y.b.size ≤ 1048576) (hSh : Msgs w 0 w.heap.size Ah h) (hch : h.length ≤ ch) (hsf : f.size ≤ 1048576) :
    Calls Try.prog 12 #[.agg #[.slice As s.length cs, .slice Ar r.length cr, .slice Ah h.length ch], .string f] w (RS2 Strs.cells 1 w (ordT s r h f).1 (ordT s r h f).2) := by
  generalize hT : ordT s r h f = t
  replace hT := Lib.hid hT
  have hX := B3.new w (.slice As s.length cs) (.slice Ar r.length cr) (.slice Ah h.length ch) 26 _ rfl
  obtain ⟨b0, b1, b2, _, _, _⟩ := id hX
  go_enter Try.func12, Try.ntmps12
  go_wp2_with fail
  refine (raGood_any As cs s Ar cr r Ah ch h _ hls hms (hSs.alloc _).all hcs hlr hmr (hSr.alloc _).all hcr hlh hmh (hSh.alloc _).all hch).mono ?_
  rintro e v1 ⟨rfl, hb⟩
  have hB : Below w.heap.size w v1 := Below.on' (by go_grown) hb
  replace hX := hX.below hb
  clear b0 b1 b2 hb
  obtain ⟨b0, b1, b2, _, _, _⟩ := id hX
  by_cases g : chanB s r h = true
  rotate_left
  · have g : chanB s r h = false := by simpa using g
    obtain rfl : ([], false) = t := (ordT_no (by rw [g]; rfl)).trans hT.out
    rw [g]
    go_wp2
    go_ret2
    exact RS2.nil_ rfl rfl hB
  rw [g]
  go_wp2_with fail
  refine (apName_any f _ hsf).mono ?_
  rintro e v2 ⟨rfl, hb⟩
  replace hB := Below.on' hB hb
  replace hX := hX.below hb
  clear b0 b1 b2 hb
  obtain ⟨b0, b1, b2, _, _, _⟩ := id hX
  by_cases g2 : nameB f = true
  rotate_left
  · have g2 : nameB f = false := by simpa using g2
    obtain rfl : ([], false) = t := (ordT_no (by rw [g, g2]; rfl)).trans hT.out
    rw [g2]
    go_wp2
    go_ret2
    exact RS2.nil_ rfl rfl hB
  rw [g2]
  obtain rfl : (ordF r f, true) = t := (ordT_yes (by rw [g, g2]; rfl)).trans hT.out
  have G := ChanG.of g
  have hn : ∀ x ∈ r, x.n ≤ 999 := fun x hx => (G.num x (G.rs x hx)).2
  clear hT g g2
  obtain ⟨i0, hi0, hz0, hz1, hz2⟩ := info_parts Strs.info
  have hO9 := ordF_len r f
  obtain ⟨M, hM⟩ : ∃ M, Hid (M = (ordF r f).length) := ⟨_, Lib.hid rfl⟩
  rw [← hM.out] at hO9
  have hzw := hX.lt
  go_wp2_with fail
  go_loopw [6, 7] (fun o i wr => ∃ (k : Nat) (Q : List ByteArray) (A : Option Addr) (c : Nat), k ≤ M ∧ i = .int .i64 (k + 1) ∧ o = .slice A Q.length c ∧ Hid (Q = (ordF r f).take k) ∧ Q.length ≤ 1000 ∧ Own Strs.cells 1 9 wr (w.heap.size + 1) A c Q ∧ B3 w.heap.size (.slice As s.length cs) (.slice Ar r.length cr) (.slice Ah h.length ch) wr ∧ Below w.heap.size w wr) (fun _ i _ => M + 1 - (intOf i).toNat)
  case atStart => exact ⟨0, [], none, 0, Nat.zero_le _, rfl, rfl, Lib.hid rfl, Nat.zero_le _, Own.nil_, hX, hB⟩
  case round =>
    clear hX hB b0 b1 b2
    obtain ⟨k, Q, A, c, hk, rfl, rfl, HQ, hQ9, hO, hX, hB⟩ := hrel
    obtain ⟨b0, b1, b2, _, _, _⟩ := id hX
    have hw : IntKind.i64.wrap ((k : Int) + 1 + 1) = (k : Int) + 1 + 1 := IntWalk.i64_in _ (by omega)
    go_wp2_with fail
    refine (raNext_any As cs s Ar cr r Ah ch h f _ hlr (hSr.below hB).all hn).mono ?_
    rw [← hM.out]
    rintro e w1 ⟨rfl, hb⟩
    replace hB := Below.on' hB hb
    replace hX := hX.below hb
    replace hO := hO.below hb
    clear b0 b1 b2 hb
    obtain ⟨b0, b1, b2, _, _, _⟩ := id hX
    by_cases hlt : k < M
    · have hlt' : (k : Int) + 1 < M + 1 := by omega
      obtain ⟨m, hf, hg⟩ := ordL_at (r := r) (f := f) (k := 1000) (n := 1) (i := k) (by have := hM.out; unfold ordF at this; omega)
      rcases find_idx (keyP f ((1 + k : Nat) : Int)) r 0 with ⟨_, e2⟩ | ⟨j, x, hj, e1, e2, _⟩
      · rw [e2] at hf; cases hf
      obtain rfl : m = x := by rw [e2] at hf; exact (Option.some.inj hf).symm
      have ek : ((1 + k : Nat) : Int) = (k : Int) + 1 := by omega
      rw [ek] at e1
      have HQ' : Hid (Q ++ [m.b] = (ordF r f).take (k + 1)) := Lib.hid (by rw [HQ.out]; exact (take_snoc hg).symm)
      have hjl : j < r.length := (List.getElem?_eq_some_iff.1 hj).1
      have hcall : ∀ W, Below w1.heap.size w1 W → Calls Try.prog 37 #[.slice Ar r.length cr, .string f, .int .i64 ((k : Int) + 1)] W (RV W (.int .i64 (j : Int))) := fun W hW => by
        have := raFind_any Ar cr r f ((k : Int) + 1) W hlr (hSr.below (Below.on' hB hW)).all
        rw [e1, Nat.zero_add] at this
        exact this
      obtain ⟨b, off, rfl, _, kb, _, hh⟩ := (hSr.below hB).at_ hj
      have d2 : w1.cell? ⟨b, off + j * 3 + 2, none⟩ = some (.string m.b) := (hh 2 _ rfl).1
      have hzw1 := hX.lt
      clear hf hg e1 e2 ek hh hj HQ
      go_upto_region 7 with fail
      refine wp_region_held_drew (S := fun w' => w'.cell? ⟨w.heap.size, 1, none⟩ = some (.slice (some ⟨b, off, none⟩) r.length cr) ∧ w'.cell? ⟨b, off + j * 3 + 2, none⟩ = some (.string m.b)) (by kernel_rfl) ⟨b1, d2⟩ (fun hHeld => ?_)
      have hbd : Below w1.heap.size w1 w1.drew := (Below.refl _ _).drew
      replace hO := hO.drew
      replace hX := hX.drew
      replace hB := hB.drew
      replace hzw1 : w.heap.size < w1.drew.heap.size := hzw1
      have kb1 : b < w1.drew.heap.size := by have := hB.size; omega
      generalize w1.drew = W at hHeld hbd hO hX hB hzw1 kb1 ⊢
      change wpAnyH _ _ _ _ _ 14 #[false, false, false, false, false, false, false, false, false, false, false, false, false, false] _ _
      refine wpAnyH_takeL (i := 0) (v := .slice A Q.length c) rfl (by kernel_rfl) (by kernel_rfl) (by kernel_rfl) (fun _ _ _ h => h) (Or.inl ⟨by rfl, fun w' hSw => by obtain ⟨z0, z1⟩ := hSw; go_simp⟩) (by assumption) ?_
      simp only [Act.put, List.setIfInBounds_toArray, List.set_cons_zero, List.set_cons_succ]
      refine wpAnyH_takeL (i := 1) (v := .pointer (some ⟨w.heap.size, 1, none⟩)) rfl (by kernel_rfl) (by kernel_rfl) (by kernel_rfl) (fun _ _ _ h => h) (Or.inl ⟨by rfl, fun w' hSw => by obtain ⟨z0, z1⟩ := hSw; go_simp⟩) (by assumption) ?_
      simp only [Act.put, List.setIfInBounds_toArray, List.set_cons_zero, List.set_cons_succ]
      refine wpAnyH_takeL (i := 2) (v := .slice (some ⟨b, off, none⟩) r.length cr) rfl (by kernel_rfl) (by kernel_rfl) (by kernel_rfl) (fun _ _ _ h => h) (Or.inl ⟨by rfl, fun w' hSw => by obtain ⟨z0, z1⟩ := hSw; go_simp⟩) (by assumption) ?_
      simp only [Act.put, List.setIfInBounds_toArray, List.set_cons_zero, List.set_cons_succ]
      refine wpAnyH_takeL (i := 3) (v := .pointer (some ⟨w.heap.size, 1, none⟩)) rfl (by kernel_rfl) (by kernel_rfl) (by kernel_rfl) (fun _ _ _ h => h) (Or.inl ⟨by rfl, fun w' hSw => by obtain ⟨z0, z1⟩ := hSw; go_simp⟩) (by assumption) ?_
      simp only [Act.put, List.setIfInBounds_toArray, List.set_cons_zero, List.set_cons_succ]
      refine wpAnyH_takeL (i := 4) (v := .slice (some ⟨b, off, none⟩) r.length cr) rfl (by kernel_rfl) (by kernel_rfl) (by kernel_rfl) (fun _ _ _ h => h) (Or.inl ⟨by rfl, fun w' hSw => by obtain ⟨z0, z1⟩ := hSw; go_simp⟩) (by assumption) ?_
      simp only [Act.put, List.setIfInBounds_toArray, List.set_cons_zero, List.set_cons_succ]
      refine wpAnyH_takeL (i := 5) (v := .string f) rfl (by kernel_rfl) (by kernel_rfl) (by kernel_rfl) (fun _ _ _ h => h) (Or.inl ⟨by rfl, fun w' hSw => by obtain ⟨z0, z1⟩ := hSw; go_simp⟩) (by assumption) ?_
      simp only [Act.put, List.setIfInBounds_toArray, List.set_cons_zero, List.set_cons_succ]
      refine wpAnyH_takeL (i := 6) (v := .int .i64 ((k : Int) + 1)) rfl (by kernel_rfl) (by kernel_rfl) (by kernel_rfl) (fun _ _ _ h => h) (Or.inl ⟨by rfl, fun w' hSw => by obtain ⟨z0, z1⟩ := hSw; go_simp⟩) (by assumption) ?_
      simp only [Act.put, List.setIfInBounds_toArray, List.set_cons_zero, List.set_cons_succ]
      refine wpAnyH_ready (rs := [7]) (by kernel_rfl) (by simp) ?_
      refine AllReadyH.consL rfl (fun K hK => ?_) AllReadyH.nil
      go_simp
      go_at_call 37
      refine (hcall _ hbd).mono ?_
      rintro e V ⟨rfl, hb⟩
      go_simp
      refine hK.out _ _ ⟨keep hb hHeld.1, keep hb hHeld.2⟩ (fun hHeld2 => ?_)
      clear hK K
      simp only [List.setIfInBounds_toArray, List.set_cons_zero, List.set_cons_succ]
      replace hO := hO.below hb
      replace hX := hX.below hb
      replace hB := Below.on' hB hb
      have hzV : w.heap.size < V.heap.size := hX.lt
      have kbV : b < V.heap.size := by have := hb.size; omega
      refine wpAnyH_takeL (i := 8) (v := .pointer (some ⟨b, off + j * 3, none⟩)) rfl (by kernel_rfl) (by kernel_rfl) (by kernel_rfl) (fun _ _ _ h => h) (Or.inl ⟨by rfl, fun w' hSw => by obtain ⟨z0, z1⟩ := hSw; go_simp⟩) (by assumption) ?_
      simp only [Act.put, List.setIfInBounds_toArray, List.set_cons_zero, List.set_cons_succ]
      refine wpAnyH_takeL (i := 9) (v := .pointer (some ⟨b, off + j * 3 + 2, none⟩)) rfl (by kernel_rfl) (by kernel_rfl) (by kernel_rfl) (fun _ _ _ h => h) (Or.inl ⟨by rfl, fun w' hSw => by obtain ⟨z0, z1⟩ := hSw; go_simp⟩) (by assumption) ?_
      simp only [Act.put, List.setIfInBounds_toArray, List.set_cons_zero, List.set_cons_succ]
      refine wpAnyH_takeL (i := 10) (v := .string m.b) rfl (by kernel_rfl) (by kernel_rfl) (by kernel_rfl) (fun _ _ _ h => h) (Or.inl ⟨by rfl, fun w' hSw => by obtain ⟨z0, z1⟩ := hSw; go_simp⟩) (by assumption) ?_
      simp only [Act.put, List.setIfInBounds_toArray, List.set_cons_zero, List.set_cons_succ]
      refine wpAnyH_ready (rs := [11]) (by kernel_rfl) (by simp) ?_
      refine AllReadyH.consL rfl (fun K hK => ?_) AllReadyH.nil
      go_simp
      refine hK.out _ _ ⟨lay _ hHeld2.1, lay _ hHeld2.2⟩ (fun hHeld3 => ?_)
      clear hK K
      simp only [List.setIfInBounds_toArray, List.set_cons_zero, List.set_cons_succ]
      refine wpAnyH_ready (rs := [12]) (by kernel_rfl) (by simp) ?_
      refine AllReadyH.consL rfl (fun K hK => ?_) AllReadyH.nil
      rw [if_pos (by rfl)]
      have hbs : w.heap.size + 1 ≤ (V.alloc (.cells #[.string m.b] 9)).heap.size := by simp; omega
      refine wp_append_all (V.alloc (.cells #[.string m.b] 9)) (.tmp 23) (.tmp 34) _ rfl i0 _ _ Try.underlying37 hi0 hz0 hz1 hz2 rfl (by omega) Strs.len Strs.one (hO.alloc _) (sl_oneS V m.b) rfl rfl (by simp only [List.length_cons, List.length_nil]; unfold maxLen; omega) (by simp only [List.length_cons, List.length_nil]; omega) hbs ?_
      intro A' c' U hO2 hb2 _ _
      obtain ⟨Q', hQ'⟩ : ∃ Q', Hid (Q' = Q ++ [m.b]) := ⟨_, Lib.hid rfl⟩
      have hl : Q'.length ≤ 1000 := by
        rw [hQ'.out, HQ'.out, List.length_take]
        have := hM.out
        omega
      rw [← hQ'.out] at hO2 ⊢
      have hX2 := (hX.alloc (.cells #[.string m.b] 9)).upto (Nat.lt_succ_self _) hb2
      have hB2 := (hB.alloc hB.size (.cells #[.string m.b] 9)).trans (hb2.mono (Nat.le_succ _))
      refine hK.out _ _ ⟨(hb2.cell (p := ⟨w.heap.size, 1, none⟩) (Nat.lt_succ_self _)).trans hHeld3.1, (hb2.cell (p := ⟨b, off + j * 3 + 2, none⟩) (by simp only; omega)).trans hHeld3.2⟩ (fun hHeld4 => ?_)
      clear hK K
      simp only [Act.put, List.setIfInBounds_toArray, List.set_cons_zero, List.set_cons_succ]
      refine wpAnyH_takeL (i := 13) (v := .slice A' Q'.length c') rfl (by kernel_rfl) (by kernel_rfl) (by kernel_rfl) (fun _ _ _ h => h) (Or.inl ⟨by rfl, fun w' hSw => by obtain ⟨z0, z1⟩ := hSw; go_simp⟩) (by assumption) ?_
      simp only [Act.put, List.setIfInBounds_toArray, List.set_cons_zero, List.set_cons_succ]
      refine wpAnyH_done (by kernel_rfl) ?_ _
      have HN : Hid (Q' = (ordF r f).take (k + 1)) := Lib.hid (hQ'.out.trans HQ'.out)
      clear hHeld hHeld2 hHeld3 hHeld4 hX hO hB hQ' HQ' b0 b1 b2 d2
      go_wp2
      go_roundw
      case rel => exact ⟨k + 1, Q', A', c', by omega, by go_num, rfl, HN, hl, hO2, hX2, hB2⟩
      case measure => simp [intOf]; omega
    · obtain rfl : k = M := by omega
      have HE : Hid (ordF r f = Q) := Lib.hid (by rw [HQ.out, hM.out, List.take_length])
      clear hX b0 b1 b2
      go_wp2
      go_ret2
      exact RS2.own HE.out rfl rfl Strs.len (hO.lift (Nat.le_succ _)) hB
end Go.Proofs.Ytacjdapfbmdddaa

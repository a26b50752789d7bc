/- WasReceived and Unconfirmed, on both sides; a message's text; IsMessage. Conditions: at most 2^20 messages in each list, texts of at most 2^20. -/
import Derived.Test.YtjmjilkpckbpeaaGreatDoorLD
import Derived.Test.YtjmjilkpckbpeaaGreatDoorRadP
import Derived.Test.YtjmjilkpckbpeaaGreatDoorDelM
import Derived.Test.YtjmjilkpckbpeaaGreatDoorMsgT
import Derived.RegionTactic
namespace Go.Proofs.YtjmjilkpckbpeaaGreatDoor
open Go.RowKit

def wasOk (s r h : List Msg) (f : ByteArray) (n : Int) : Bool := chanB s r h && nameB f && inB n 1 999
def wasT (s r h : List Msg) (f : ByteArray) (n : Int) : Bool × Bool := if wasOk s r h f n = true then (r.any (keyP f n), true) else (false, false)
theorem wasT_no {s r h : List Msg} {f : ByteArray} {n : Int} (hg : wasOk s r h f n = false) : wasT s r h f n = (false, false) := by rw [wasT, hg]; rfl
theorem wasT_yes {s r h : List Msg} {f : ByteArray} {n : Int} (hg : wasOk s r h f n = true) : wasT s r h f n = (r.any (keyP f n), true) := by rw [wasT, if_pos hg]
set_option maxRecDepth 100000 in
set_option maxHeartbeats 8000000 in
theorem WasReceived_impl (As : Option Addr) (cs : Nat) (s : List Msg) (Ar : Option Addr) (cr : Nat) (r : List Msg) (Ah : Option Addr) (ch : Nat) (h : List Msg) (f : ByteArray) (n : Int) (w : World) (hls : s.length ≤ 1048576) (hms : ∀ y ∈ s, y.f.size ≤ 1048576 ∧ y.b.size ≤ 1048576) (hSs : Msgs w 0 w.heap.size As s) (hcs : s.length ≤ cs) (hlr : r.length ≤ 1048576) (hmr : ∀ y ∈ r, y.f.size ≤ 1048576 ∧ y.b.size ≤ 1048576) (hSr : Msgs w 0 w.heap.size Ar r) (hcr : r.length ≤ cr) (hlh : h.length ≤ 1048576) (hmh : ∀ y ∈ h, y.f.size ≤ 1048576 ∧ y.b.size ≤ 1048576) (hSh : Msgs w 0 w.heap.size Ah h) (hch : h.length ≤ ch) (hsf : f.size ≤ 1048576) :
    Calls Tryz.prog 11 #[.agg #[.slice As s.length cs, .slice Ar r.length cr, .slice Ah h.length ch], .string f, .int .i64 n] w (RV w (.tuple #[.bool (wasT s r h f n).1, .bool (wasT s r h f n).2])) := by
  generalize hT : wasT s r h f n = t
  replace hT := Lib.hid hT
  have hX := B3.new w (.slice As s.length cs) (.slice Ar r.length cr) (.slice Ah h.length ch) 26 _ rfl
  obtain ⟨b0, b1, b2, _, _, _⟩ := id hX
  go_enter Tryz.func11, Tryz.ntmps11
  go_wp2_with fail
  refine (isChannel_any w.heap.size 0 As cs s Ar cr r Ah ch h _ hX.c3 hls hms (hSs.alloc _).all hcs hlr hmr (hSr.alloc _).all hcr hlh hmh (hSh.alloc _).all hch).mono ?_
  rintro e v1 ⟨rfl, hb⟩
  have hB : Below w.heap.size w v1 := Below.on' (by go_grown) hb
  replace hX := hX.below hb
  clear b0 b1 b2 hb
  obtain ⟨b0, b1, b2, _, _, _⟩ := id hX
  by_cases g : chanB s r h = true
  rotate_left
  · have g : chanB s r h = false := by simpa using g
    obtain rfl : (false, false) = t := (wasT_no (by rw [wasOk, g]; rfl)).symm.trans hT.out
    rw [g]
    go_wp2
    go_ret2
    exact ⟨rfl, hB⟩
  rw [g]
  go_wp2_with fail
  refine (isName_any f _ hsf).mono ?_
  rintro e v2 ⟨rfl, hb⟩
  replace hB := Below.on' hB hb
  replace hX := hX.below hb
  clear b0 b1 b2 hb
  obtain ⟨b0, b1, b2, _, _, _⟩ := id hX
  by_cases g2 : nameB f = true
  rotate_left
  · have g2 : nameB f = false := by simpa using g2
    obtain rfl : (false, false) = t := (wasT_no (by rw [wasOk, g, g2]; rfl)).symm.trans hT.out
    rw [g2]
    go_wp2
    go_ret2
    exact ⟨rfl, hB⟩
  rw [g2]
  go_wp2_with fail
  refine (inside_any n 1 999 _).mono ?_
  rintro e v3 ⟨rfl, hb⟩
  replace hB := Below.on' hB hb
  replace hX := hX.below hb
  clear b0 b1 b2 hb
  obtain ⟨b0, b1, b2, _, _, _⟩ := id hX
  by_cases g3 : inB n 1 999 = true
  rotate_left
  · have g3 : inB n 1 999 = false := by simpa using g3
    obtain rfl : (false, false) = t := (wasT_no (by rw [wasOk, g, g2, g3]; rfl)).symm.trans hT.out
    rw [g3]
    go_wp2
    go_ret2
    exact ⟨rfl, hB⟩
  rw [g3]
  obtain rfl : (r.any (keyP f n), true) = t := (wasT_yes (by rw [wasOk, g, g2, g3]; rfl)).symm.trans hT.out
  have HM := Lib.hid (idxG_any (keyP f n) r)
  clear hT g g2 g3
  go_wp2_with fail
  refine (received_any w.heap.size 0 _ _ Ar cr r f n _ hX.c3 hlr (hSr.below hB).all).mono ?_
  rintro e v4 ⟨rfl, hb⟩
  replace hB := Below.on' hB hb
  clear hb b0 b1 b2 hX
  go_wp2
  go_ret2
  exact ⟨by rw [← HM.out]; first | rfl | (simp; done), hB⟩
set_option maxRecDepth 100000 in
set_option maxHeartbeats 8000000 in
theorem WasReceived_spec (As : Option Addr) (cs : Nat) (s : List Msg) (Ar : Option Addr) (cr : Nat) (r : List Msg) (Ah : Option Addr) (ch : Nat) (h : List Msg) (f : ByteArray) (n : Int) (w : World) (hls : s.length ≤ 1048576) (hms : ∀ y ∈ s, y.f.size ≤ 1048576 ∧ y.b.size ≤ 1048576) (hSs : Msgs w 0 w.heap.size As s) (hcs : s.length ≤ cs) (hlr : r.length ≤ 1048576) (hmr : ∀ y ∈ r, y.f.size ≤ 1048576 ∧ y.b.size ≤ 1048576) (hSr : Msgs w 0 w.heap.size Ar r) (hcr : r.length ≤ cr) (hlh : h.length ≤ 1048576) (hmh : ∀ y ∈ h, y.f.size ≤ 1048576 ∧ y.b.size ≤ 1048576) (hSh : Msgs w 0 w.heap.size Ah h) (hch : h.length ≤ ch) (hsf : f.size ≤ 1048576) :
    Calls Tryz.prog 21 #[.agg #[.slice As s.length cs, .slice Ar r.length cr, .slice Ah h.length ch], .string f, .int .i64 n] w (RV w (.tuple #[.bool (wasT s r h f n).1, .bool (wasT s r h f n).2])) := by
  generalize hT : wasT s r h f n = t
  replace hT := Lib.hid hT
  have hX := B3.new w (.slice As s.length cs) (.slice Ar r.length cr) (.slice Ah h.length ch) 26 _ rfl
  obtain ⟨b0, b1, b2, _, _, _⟩ := id hX
  go_enter Tryz.func21, Tryz.ntmps21
  go_wp2_with fail
  refine (raGood_any As cs s Ar cr r Ah ch h _ hls hms (hSs.alloc _).all hcs hlr hmr (hSr.alloc _).all hcr hlh hmh (hSh.alloc _).all hch).mono ?_
  rintro e v1 ⟨rfl, hb⟩
  have hB : Below w.heap.size w v1 := Below.on' (by go_grown) hb
  replace hX := hX.below hb
  clear b0 b1 b2 hb
  obtain ⟨b0, b1, b2, _, _, _⟩ := id hX
  by_cases g : chanB s r h = true
  rotate_left
  · have g : chanB s r h = false := by simpa using g
    obtain rfl : (false, false) = t := (wasT_no (by rw [wasOk, g]; rfl)).symm.trans hT.out
    rw [g]
    go_wp2
    go_ret2
    exact ⟨rfl, hB⟩
  rw [g]
  go_wp2_with fail
  refine (apName_any f _ hsf).mono ?_
  rintro e v2 ⟨rfl, hb⟩
  replace hB := Below.on' hB hb
  replace hX := hX.below hb
  clear b0 b1 b2 hb
  obtain ⟨b0, b1, b2, _, _, _⟩ := id hX
  by_cases g2 : nameB f = true
  rotate_left
  · have g2 : nameB f = false := by simpa using g2
    obtain rfl : (false, false) = t := (wasT_no (by rw [wasOk, g, g2]; rfl)).symm.trans hT.out
    rw [g2]
    go_wp2
    go_ret2
    exact ⟨rfl, hB⟩
  rw [g2]
  go_wp2_with fail
  refine (l1In_any n 1 999 _).mono ?_
  rintro e v3 ⟨rfl, hb⟩
  replace hB := Below.on' hB hb
  replace hX := hX.below hb
  clear b0 b1 b2 hb
  obtain ⟨b0, b1, b2, _, _, _⟩ := id hX
  by_cases g3 : inB n 1 999 = true
  rotate_left
  · have g3 : inB n 1 999 = false := by simpa using g3
    obtain rfl : (false, false) = t := (wasT_no (by rw [wasOk, g, g2, g3]; rfl)).symm.trans hT.out
    rw [g3]
    go_wp2
    go_ret2
    exact ⟨rfl, hB⟩
  rw [g3]
  obtain rfl : (r.any (keyP f n), true) = t := (wasT_yes (by rw [wasOk, g, g2, g3]; rfl)).symm.trans hT.out
  have HM := Lib.hid (idxG_any (keyP f n) r)
  clear hT g g2 g3
  go_wp2_with fail
  refine (raFind_any Ar cr r f n _ hlr (hSr.below hB).all).mono ?_
  rintro e v4 ⟨rfl, hb⟩
  replace hB := Below.on' hB hb
  clear hb b0 b1 b2 hX
  go_wp2
  go_ret2
  exact ⟨by rw [← HM.out]; first | rfl | (simp; done), hB⟩
theorem IsMessage_impl (m : Msg) (w : World) (hf : m.f.size ≤ 1048576) (hb0 : m.b.size ≤ 1048576) : Calls Tryz.prog 28 #[.agg #[.string m.f, .int .i64 m.n, .string m.b]] w (RV w (.bool (msgB m))) := by
  go_enter Tryz.func28, Tryz.ntmps28
  go_wp2_with fail
  refine (isMessage_any m _ hf hb0).mono ?_
  rintro e v1 ⟨rfl, hb⟩
  have hB : Below w.heap.size w v1 := Below.on' (by go_grown) hb
  clear hb
  go_wp2
  go_ret
  exact RV.mk rfl hB
def txtT (m : Msg) : ByteArray × Bool := if msgB m = true then (msgT m, true) else (⟨#[]⟩, false)
set_option maxHeartbeats 2000000 in
theorem MessageText_impl (m : Msg) (w : World) (hf : m.f.size ≤ 1048576) (hb0 : m.b.size ≤ 1048576) (hTab : TabW w) : Calls Tryz.prog 23 #[.agg #[.string m.f, .int .i64 m.n, .string m.b]] w (RV w (.tuple #[.string (txtT m).1, .bool (txtT m).2])) := by
  generalize hT : txtT m = t
  replace hT := Lib.hid hT
  have hX := B3.new w (.string m.f) (.int .i64 m.n) (.string m.b) 33 _ rfl
  obtain ⟨b0, b1, b2, _, _, _⟩ := id hX
  go_enter Tryz.func23, Tryz.ntmps23
  go_wp2_with fail
  refine (isMessage_any m _ hf hb0).mono ?_
  rintro e v1 ⟨rfl, hb⟩
  have hB : Below w.heap.size w v1 := Below.on' (by go_grown) hb
  replace hX := hX.below hb
  clear b0 b1 b2 hb
  obtain ⟨b0, b1, b2, _, _, _⟩ := id hX
  by_cases g : msgB m = true
  rotate_left
  · have g : msgB m = false := by simpa using g
    obtain rfl : (⟨#[]⟩, false) = t := by rw [← hT.out, txtT, g]; rfl
    rw [g]
    go_wp2
    go_ret2
    exact ⟨rfl, hB⟩
  rw [g]
  obtain rfl : (msgT m, true) = t := by rw [← hT.out, txtT, if_pos g]
  go_wp2_with fail
  refine (messageText_any m g _ (hTab.below hB)).mono ?_
  rintro e v2 ⟨rfl, hb⟩
  replace hB := Below.on' hB hb
  clear hb
  go_wp2
  go_ret2
  exact ⟨rfl, hB⟩
set_option maxHeartbeats 2000000 in
theorem MessageText_spec (m : Msg) (w : World) (hf : m.f.size ≤ 1048576) (hb0 : m.b.size ≤ 1048576) : Calls Tryz.prog 24 #[.agg #[.string m.f, .int .i64 m.n, .string m.b]] w (RV w (.tuple #[.string (txtT m).1, .bool (txtT m).2])) := by
  generalize hT : txtT m = t
  replace hT := Lib.hid hT
  have hX := B3.new w (.string m.f) (.int .i64 m.n) (.string m.b) 33 _ rfl
  obtain ⟨b0, b1, b2, _, _, _⟩ := id hX
  go_enter Tryz.func24, Tryz.ntmps24
  go_wp2_with fail
  refine (raOne_any m _ hf hb0).mono ?_
  rintro e v1 ⟨rfl, hb⟩
  have hB : Below w.heap.size w v1 := Below.on' (by go_grown) hb
  replace hX := hX.below hb
  clear b0 b1 b2 hb
  obtain ⟨b0, b1, b2, _, _, _⟩ := id hX
  by_cases g : msgB m = true
  rotate_left
  · have g : msgB m = false := by simpa using g
    obtain rfl : (⟨#[]⟩, false) = t := by rw [← hT.out, txtT, g]; rfl
    rw [g]
    go_wp2
    go_ret2
    exact ⟨rfl, hB⟩
  rw [g]
  obtain rfl : (msgT m, true) = t := by rw [← hT.out, txtT, if_pos g]
  go_wp2_with fail
  refine (raText_any m g _).mono ?_
  rintro e v2 ⟨rfl, hb⟩
  replace hB := Below.on' hB hb
  clear hb
  go_wp2
  go_ret2
  exact ⟨rfl, hB⟩
def uncT (s r h : List Msg) : List Msg × Bool := if chanB s r h = true then (uncF s h, true) else ([], false)
theorem uncT_no {s r h : List Msg} (hg : chanB s r h = false) : uncT s r h = ([], false) := by rw [uncT, hg]; rfl
theorem uncT_yes {s r h : List Msg} (hg : chanB s r h = true) : uncT s r h = (uncF s h, true) := by rw [uncT, if_pos hg]
/-- A list of messages and a bool returned. -/
def RUN (w : World) (R : List Msg) (b : Bool) (e : Ending) (w' : World) : Prop := ∃ A c, e = .returned (.tuple #[.slice A R.length c, .bool b]) ∧ Msgs w' 0 w'.heap.size A R ∧ Below w.heap.size w w'
theorem nil_msgs {w : World} {lo hi : Nat} : Msgs w lo hi none [] := fun h => absurd rfl h
set_option maxHeartbeats 2000000 in
theorem unc1_any (x : Msg) (pb : Nat) (vs vr : Value) (Ah : Option Addr) (ch : Nat) (h : List Msg) (w : World) (hX : B3 pb vs vr (.slice Ah h.length ch) w) (hl : h.length ≤ 1048576) (hS : Msgs w 0 w.heap.size Ah h) :
    Calls Tryz.prog 77 #[.agg #[.string x.f, .int .i64 x.n, .string x.b], .pointer (some ⟨pb, 0, none⟩)] w fun e w' => e = .returned (.bool (memM h x)) ∧ Below w.heap.size w w' := by
  obtain ⟨b0, b1, b2, _, _, _⟩ := id hX
  have k1 := hX.lt
  go_enter Tryz.func77, Tryz.ntmps77
  go_wp2_with fail
  refine (Msg.Contains_any Ah ch h x _ hl (hS.alloc _).all).mono ?_
  rintro e v1 ⟨rfl, hb⟩
  have hB : Below w.heap.size w v1 := Below.on' (by go_grown) hb
  clear hb
  go_wp2
  go_ret
  exact ⟨rfl, hB⟩
theorem unc1_enters : Enters 77 := enters Tryz.func77 (by kernel_rfl) (by kernel_rfl)
set_option maxRecDepth 100000 in
set_option maxHeartbeats 8000000 in
theorem Unconfirmed_impl (As : Option Addr) (cs : Nat) (s : List Msg) (Ar : Option Addr) (cr : Nat) (r : List Msg) (Ah : Option Addr) (ch : Nat) (h : List Msg) (w : World) (hls : s.length ≤ 1048576) (hms : ∀ y ∈ s, y.f.size ≤ 1048576 ∧ y.b.size ≤ 1048576) (hSs : Msgs w 0 w.heap.size As s) (hcs : s.length ≤ cs) (hlr : r.length ≤ 1048576) (hmr : ∀ y ∈ r, y.f.size ≤ 1048576 ∧ y.b.size ≤ 1048576) (hSr : Msgs w 0 w.heap.size Ar r) (hcr : r.length ≤ cr) (hlh : h.length ≤ 1048576) (hmh : ∀ y ∈ h, y.f.size ≤ 1048576 ∧ y.b.size ≤ 1048576) (hSh : Msgs w 0 w.heap.size Ah h) (hch : h.length ≤ ch) :
    Calls Tryz.prog 16 #[.agg #[.slice As s.length cs, .slice Ar r.length cr, .slice Ah h.length ch]] w (RUN w (uncT s r h).1 (uncT s r h).2) := by
  generalize hT : uncT s r h = t
  replace hT := Lib.hid hT
  have hX := B3.new w (.slice As s.length cs) (.slice Ar r.length cr) (.slice Ah h.length ch) 26 _ rfl
  obtain ⟨b0, b1, b2, _, _, _⟩ := id hX
  go_enter Tryz.func16, Tryz.ntmps16
  go_wp2_with fail
  refine (isChannel_any w.heap.size 0 As cs s Ar cr r Ah ch h _ hX.c3 hls hms (hSs.alloc _).all hcs hlr hmr (hSr.alloc _).all hcr hlh hmh (hSh.alloc _).all hch).mono ?_
  rintro e v1 ⟨rfl, hb⟩
  have hB : Below w.heap.size w v1 := Below.on' (by go_grown) hb
  replace hX := hX.below hb
  clear b0 b1 b2 hb
  obtain ⟨b0, b1, b2, _, _, _⟩ := id hX
  by_cases g : chanB s r h = true
  rotate_left
  · have g : chanB s r h = false := by simpa using g
    obtain rfl : ([], false) = t := (uncT_no g).symm.trans hT.out
    rw [g]
    go_wp2
    go_ret2
    exact ⟨none, 0, rfl, nil_msgs, hB⟩
  rw [g]
  obtain rfl : (uncF s h, true) = t := (uncT_yes g).symm.trans hT.out
  clear hT g
  go_wp2_with fail
  refine (Msg.Clone_any As cs s _ hls (hSs.below hB).all).mono ?_
  rintro e v2 ⟨A, c, rfl, hO, hb⟩
  have hz := hB.size
  have k1 := hX.lt
  replace hB := Below.on' hB hb
  replace hX := hX.below hb
  clear b0 b1 b2 hb
  have hc := hO.cap
  have hc2 := hO.capMax
  have hS2 := hO.sl Msg.len
  have hP : Msg.Pred 77 #[.pointer (some ⟨w.heap.size, 0, none⟩)] (memM h) v1.heap.size v2.heap.size s v2 := fun V x _ hF => by
    have hX' := hX.same (hF.block _ hX.lt (by omega))
    exact unc1_any x w.heap.size _ _ Ah ch h V hX' hlh (hSh.keep (fun b _ hb => (hF.block b (by have := hB.size; omega) (by omega)).trans (hB.block b hb)) (Nat.le_trans hB.size hF.size)).all
  go_wp2_with fail
  refine (Msg.DeleteFunc_any _ _ (memM h) A c _ _ s v2 unc1_enters hls hc hc2 hS2 hP).mono ?_
  rintro e v3 ⟨rfl, hT, hF⟩
  have hB3 := hB.trans (hF.below (B := w.heap.size) (by omega) hB.size)
  have hu : (s.filter fun x => !memM h x) = uncF s h := rfl
  rw [hu] at hT ⊢
  clear hP hX hO
  go_wp2
  go_ret2
  exact ⟨A, c, rfl, (hT.mono (Nat.zero_le _) hF.size (Nat.le_refl _)), hB3⟩
theorem unc_step {s h : List Msg} {k : Nat} {x : Msg} (hx : s[k]? = some x) : uncF (s.take (k + 1)) h = uncF (s.take k) h ++ (if memM h x = true then [] else [x]) := by
  rw [take_snoc hx]
  unfold uncF
  rw [List.filter_append]
  congr 1
  cases g : memM h x <;> simp [g]
set_option maxRecDepth 100000 in
set_option maxHeartbeats 8000000 in
theorem Unconfirmed_spec (As : Option Addr) (cs : Nat) (s : List Msg) (Ar : Option Addr) (cr : Nat) (r : List Msg) (Ah : Option Addr) (ch : Nat) (h : List Msg) (w : World) (hls : s.length ≤ 1048576) (hms : ∀ y ∈ s, y.f.size ≤ 1048576 ∧ y.b.size ≤ 1048576) (hSs : Msgs w 0 w.heap.size As s) (hcs : s.length ≤ cs) (hlr : r.length ≤ 1048576) (hmr : ∀ y ∈ r, y.f.size ≤ 1048576 ∧ y.b.size ≤ 1048576) (hSr : Msgs w 0 w.heap.size Ar r) (hcr : r.length ≤ cr) (hlh : h.length ≤ 1048576) (hmh : ∀ y ∈ h, y.f.size ≤ 1048576 ∧ y.b.size ≤ 1048576) (hSh : Msgs w 0 w.heap.size Ah h) (hch : h.length ≤ ch) :
    Calls Tryz.prog 17 #[.agg #[.slice As s.length cs, .slice Ar r.length cr, .slice Ah h.length ch]] w (RUN w (uncT s r h).1 (uncT s r h).2) := by
  obtain ⟨i0, hi0, hv0, hv1, hv2⟩ := info_parts Msg.info
  generalize hT : uncT s r h = t
  replace hT := Lib.hid hT
  have hX := B3.new w (.slice As s.length cs) (.slice Ar r.length cr) (.slice Ah h.length ch) 26 _ rfl
  obtain ⟨b0, b1, b2, _, _, _⟩ := id hX
  go_enter Tryz.func17, Tryz.ntmps17
  go_wp2_with fail
  refine (raGood_any As cs s Ar cr r Ah ch h _ hls hms (hSs.alloc _).all hcs hlr hmr (hSr.alloc _).all hcr hlh hmh (hSh.alloc _).all hch).mono ?_
  rintro e v1 ⟨rfl, hb⟩
  have hB : Below w.heap.size w v1 := Below.on' (by go_grown) hb
  replace hX := hX.below hb
  clear b0 b1 b2 hb
  obtain ⟨b0, b1, b2, _, _, _⟩ := id hX
  by_cases g : chanB s r h = true
  rotate_left
  · have g : chanB s r h = false := by simpa using g
    obtain rfl : ([], false) = t := (uncT_no g).symm.trans hT.out
    rw [g]
    go_wp2
    go_ret2
    exact ⟨none, 0, rfl, nil_msgs, hB⟩
  rw [g]
  obtain rfl : (uncF s h, true) = t := (uncT_yes g).symm.trans hT.out
  have G := ChanG.of g
  have HU : ∀ x ∈ s, decide (0 ≤ idxG (keyP x.f x.n) h 0) = memM h x := fun x hx => by rw [idxG_any]; exact any_key G.key G.hs hx
  clear hT g G
  go_wp2_with fail
  clear b0 b1 b2
  go_loopw [4, 13] (fun o i wr => ∃ (k : Nat) (B : Option Addr) (d : Nat) (L : List Msg), k ≤ s.length ∧ i = .int .i64 k ∧ o = .slice B L.length d ∧ Hid (L = uncF (s.take k) h) ∧ L.length ≤ k ∧ Own Msg.cells 3 33 wr (w.heap.size + 1) B d L ∧ Below w.heap.size w wr ∧ B3 w.heap.size (.slice As s.length cs) (.slice Ar r.length cr) (.slice Ah h.length ch) wr) (fun _ i _ => s.length - (intOf i).toNat)
  case atStart => exact ⟨0, none, 0, [], Nat.zero_le _, rfl, rfl, rfl, Nat.le_refl _, Own.nil_, hB, hX⟩
  case round =>
    clear hB hX
    obtain ⟨k, B, d, L, hk, rfl, rfl, HL, hL, hO, hB, hX⟩ := hrel
    have hz := hX.lt
    by_cases hlt : k < s.length
    · obtain ⟨x, hx, hxm⟩ := get_lt hlt
      have HC := Lib.hid (HU x hxm)
      have HS := Lib.hid (unc_step (h := h) hx)
      obtain ⟨b, off, rfl, _, _, _, hf⟩ := (hSs.below hB).at_ hx
      have c0 : wr.cell? ⟨b, off + k * 3, none⟩ = some (.string x.f) := (hf 0 _ rfl).1
      have c1 : wr.cell? ⟨b, off + k * 3 + 1, none⟩ = some (.int .i64 x.n) := (hf 1 _ rfl).1
      have c2 : wr.cell? ⟨b, off + k * 3 + 2, none⟩ = some (.string x.b) := (hf 2 _ rfl).1
      clear hf hx hxm
      obtain ⟨b0, b1, b2, _, _, _⟩ := id hX
      have hXn := hX.alloc (.cells #[.string x.f, .int .i64 x.n, .string x.b] 33)
      have hM := B3.new wr (.string x.f) (.int .i64 x.n) (.string x.b) 33 _ rfl
      have hOn := hO.alloc (.cells #[.string x.f, .int .i64 x.n, .string x.b] 33)
      have hBn := hB.alloc hB.size (.cells #[.string x.f, .int .i64 x.n, .string x.b] 33)
      have hzn : w.heap.size + 1 ≤ (wr.alloc (.cells #[.string x.f, .int .i64 x.n, .string x.b] 33)).heap.size := by simp; omega
      have hSn := (((hSh.below hB).all).alloc (.cells #[.string x.f, .int .i64 x.n, .string x.b] 33)).all
      go_wp2_with fail
      refine (raFind_any Ah ch h x.f x.n _ hlh hSn).mono ?_
      rintro e v2 ⟨rfl, hb⟩
      replace hXn := hXn.below hb
      replace hM := hM.below hb
      replace hOn := hOn.below hb
      replace hBn := Below.on' hBn hb
      replace hzn := Nat.le_trans hzn hb.size
      clear hb b0 b1 b2 c0 c1 c2 hSn hX hO hB
      obtain ⟨m0, m1, m2, _, _, _⟩ := id hM
      cases hm : memM h x with
      | true =>
        have h0 : ¬ idxG (keyP x.f x.n) h 0 < 0 := by have := HC.out; rw [hm] at this; have := of_decide_eq_true this; omega
        have HL2 : Hid (L = uncF (s.take (k + 1)) h) := Lib.hid (by rw [HS.out, hm, if_pos rfl, List.append_nil]; exact HL.out)
        clear HC HS hm
        generalize idxG (keyP x.f x.n) h 0 = q at h0 ⊢
        go_wp2
        go_roundw
        case rel => exact ⟨k + 1, B, d, L, by omega, by go_num, rfl, HL2, by omega, hOn, hBn, hXn⟩
        case measure => simp [intOf]; omega
      | false =>
        have h0 : idxG (keyP x.f x.n) h 0 < 0 := by have := HC.out; rw [hm] at this; have := of_decide_eq_false this; omega
        have HL2 : Hid (L ++ [x] = uncF (s.take (k + 1)) h) := Lib.hid (by rw [HS.out, hm, if_neg (by decide), HL.out])
        clear HC HS hm
        generalize idxG (keyP x.f x.n) h 0 = q at h0 ⊢
        go_wp2_with (at_builtin; refine wpList_append_one _ rfl (.tmp 25) (.tmp 27) _ rfl i0 _ _ Tryz.underlying24 hi0 hv0 hv1 hv2 rfl (by omega) Msg.len Msg.one x _ (hOn.alloc _) rfl rfl (new_cells_at _ _ _ _ _ (by simp) rfl) (by unfold maxLen; first | omega | (simp; omega)) (by first | omega | (simp; omega)) (by simp; omega) ?_; intro B' d' V L' hL' hO' hbV)
        have hbx : Below (w.heap.size + 1) v2 V := ((Below.refl (w.heap.size + 1) v2).alloc (by omega) _).trans hbV
        have hB2 := hBn.trans (hbx.mono (by omega))
        have hX2 := hXn.upto (Nat.lt_succ_self _) hbx
        have hL2 : L'.length ≤ k + 1 := by rw [hL'.out, List.length_append]; simpa using hL
        have HL3 : Hid (L' = uncF (s.take (k + 1)) h) := Lib.hid (by rw [hL'.out]; exact HL2.out)
        clear hbx hbV hOn hBn hXn hM m0 m1 m2 HL2 hL'
        go_wp2
        go_roundw
        case rel => exact ⟨k + 1, B', d', L', by omega, by go_num, rfl, HL3, by omega, hO', hB2, hX2⟩
        case measure => simp [intOf]; omega
    · obtain rfl : k = s.length := by omega
      rw [List.take_length] at HL
      obtain rfl : L = uncF s h := HL.out
      clear HL HU hi0 hv0 hv1 hv2
      go_wp2
      go_ret2
      exact ⟨B, d, rfl, (hO.sl Msg.len).all, hB⟩
end Go.Proofs.YtjmjilkpckbpeaaGreatDoor

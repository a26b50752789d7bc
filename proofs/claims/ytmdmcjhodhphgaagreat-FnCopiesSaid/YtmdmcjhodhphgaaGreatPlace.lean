/- Places, active rooms and handovers in histories; histories split. Conditions: lists and texts of at most 2^20. -/
import Derived.Test.YtmdmcjhodhphgaaGreatGood
namespace Go.Proofs.YtmdmcjhodhphgaaGreat
open Go.RowKit

theorem below_drewN {B : Nat} {w W : World} (h : Below B w W) (n : Nat) : Below B w (W.drewN n) := ⟨h.os, h.tape, h.output, h.size, h.block⟩
set_option maxHeartbeats 1000000 in
theorem IsHistory_impl (Ah : Option Addr) (ch : Nat) (h : List Ent) (w : World) (hlh : h.length ≤ 1048576) (hmh : ∀ x ∈ h, x.t.size ≤ 1048576) (hSh : Ents w 0 w.heap.size Ah h) (hch : h.length ≤ ch) :
    Calls Tryz.prog 25 #[.slice Ah h.length ch] w (RV w (.bool (histB h))) := by
  go_enter Tryz.func25, Tryz.ntmps25
  go_wp2_with fail
  refine (isHistory_any Ah ch h _ hlh hmh hSh hch).mono ?_
  rintro e w1 ⟨rfl, hb⟩
  have hb1 : Below w.heap.size w w1 := Below.on' (by go_grown) hb
  clear hb
  have hB1 : Below w.heap.size w w1 := hb1
  replace hSh := (hSh.below hb1).all
  go_wp2
  go_ret
  exact RV.mk rfl hB1
def plaOk (h : List Ent) (r n : Int) : Bool := histB h && roomB r && inB n 1 999
def plaP (r n : Int) (x : Ent) : Bool := decide (x.r = r) && decide (x.n = n)
def plaI (h : List Ent) (r n : Int) : Int := if plaOk h r n = true then max (idxF (plaP r n) h 0) 0 else 0
def plaB (h : List Ent) (r n : Int) : Bool := plaOk h r n && decide (0 ≤ idxF (plaP r n) h 0)
theorem idxF_ge (p : Ent → Bool) : ∀ (l : List Ent) (i : Nat), -1 ≤ idxF p l i ∧ idxF p l i ≤ i + l.length
  | [], i => by simp [idxF]
  | x :: l, i => by
    have := idxF_ge p l (i + 1)
    rw [idxF]
    split
    · simp only [List.length_cons]; omega
    · simp only [List.length_cons]; omega
set_option maxHeartbeats 1000000 in
theorem PlaceOf1_any (x : Ent) (B C : Nat) (r n : Int) (W : World) (hB : W.cell? ⟨B, 0, none⟩ = some (.int .i64 r)) (hC : W.cell? ⟨C, 0, none⟩ = some (.int .i64 n)) :
    Calls Tryz.prog 50 #[.agg #[.int .i64 x.r, .int .i64 x.n, .int .i64 x.m, .string x.t], .pointer (some ⟨B, 0, none⟩), .pointer (some ⟨C, 0, none⟩)] W fun e w' => e = .returned (.bool (plaP r n x)) ∧ Below W.heap.size W w' := by
  have hB2 := lay (.cells #[.int .i64 x.r, .int .i64 x.n, .int .i64 x.m, .string x.t] 38) hB
  have hC2 := lay (.cells #[.int .i64 x.r, .int .i64 x.n, .int .i64 x.m, .string x.t] 38) hC
  clear hB hC
  by_cases hr : x.r = r
  · have h1 : (x.r == r) = true := beq_iff_eq.2 hr
    have HF : Hid (plaP r n x = decide (x.n = n)) := Lib.hid (by simp [plaP, hr])
    clear hr
    go_enter Tryz.func50, Tryz.ntmps50
    go_wp2
    all_goals go_ret
    all_goals exact ⟨by rw [HF.out]; first | rfl | (simp; done) | skip, by go_grown⟩
  · have h1 : (x.r == r) = false := beq_eq_false_iff_ne.2 hr
    have HF : Hid (plaP r n x = false) := Lib.hid (by simp [plaP, hr])
    clear hr
    go_enter Tryz.func50, Tryz.ntmps50
    go_wp2
    go_ret
    exact ⟨by rw [HF.out]; rfl, by go_grown⟩
theorem PlaceOf1_enters : Enters 50 := enters Tryz.func50 (by kernel_rfl) (by kernel_rfl)
set_option maxHeartbeats 1000000 in
theorem PlaceOf_spec (Ah : Option Addr) (ch : Nat) (h : List Ent) (r : Int) (n : Int) (w : World) (hlh : h.length ≤ 1048576) (hmh : ∀ x ∈ h, x.t.size ≤ 1048576) (hSh : Ents w 0 w.heap.size Ah h) (hch : h.length ≤ ch) :
    Calls Tryz.prog 24 #[.slice Ah h.length ch, .int .i64 r, .int .i64 n] w (RV w (.tuple #[.int .i64 (plaI h r n), .bool (plaB h r n)])) := by
  go_enter Tryz.func24, Tryz.ntmps24
  go_wp2_with fail
  refine (mgGood_any Ah ch h _ hlh hmh hSh hch).mono ?_
  rintro e w1 ⟨rfl, hb⟩
  have hb1 : Below w.heap.size w w1 := Below.on' (by go_grown) hb
  clear hb
  have hB1 : Below w.heap.size w w1 := hb1
  replace hSh := (hSh.below hb1).all
  by_cases g1 : histB h = true
  rotate_left
  · have g1 : histB h = false := by simpa using g1
    have HN : Hid (plaI h r n = 0 ∧ plaB h r n = false) := Lib.hid (by simp [plaI, plaB, plaOk, g1])
    go_wp2
    go_ret2
    exact RV.mk (by rw [HN.out.1, HN.out.2]; rfl) hB1
  go_wp2_with fail
  refine (lgRoom_any _ _).mono ?_
  rintro e w2 ⟨rfl, hb⟩
  have hb2 : Below w1.heap.size w1 w2 := Below.on' (by go_grown) hb
  clear hb
  have hB2 : Below w.heap.size w w2 := Below.on' hB1 hb2
  replace hSh := (hSh.below hb2).all
  by_cases g2 : roomB r = true
  rotate_left
  · have g2 : roomB r = false := by simpa using g2
    have HN : Hid (plaI h r n = 0 ∧ plaB h r n = false) := Lib.hid (by simp [plaI, plaB, plaOk, g2])
    go_wp2
    go_ret2
    exact RV.mk (by rw [HN.out.1, HN.out.2]; rfl) hB2
  go_wp2_with fail
  refine (l1In_any _ _ _ _).mono ?_
  rintro e w3 ⟨rfl, hb⟩
  have hb3 : Below w2.heap.size w2 w3 := Below.on' (by go_grown) hb
  clear hb
  have hB3 : Below w.heap.size w w3 := Below.on' hB2 hb3
  replace hSh := (hSh.below hb3).all
  by_cases g3 : inB n 1 999 = true
  rotate_left
  · have g3 : inB n 1 999 = false := by simpa using g3
    have HN : Hid (plaI h r n = 0 ∧ plaB h r n = false) := Lib.hid (by simp [plaI, plaB, plaOk, g3])
    go_wp2
    go_ret2
    exact RV.mk (by rw [HN.out.1, HN.out.2]; rfl) hB3
  have HY : Hid (plaI h r n = max (idxF (plaP r n) h 0) 0 ∧ plaB h r n = decide (0 ≤ idxF (plaP r n) h 0)) := Lib.hid (by simp [plaI, plaB, plaOk, g1, g2, g3])
  go_wp2_with fail
  clear g1 g2 g3
  go_loopw [25] (fun i wr => ∃ k : Nat, k ≤ h.length ∧ i = .int .i64 k ∧ Hid (idxF (plaP r n) (h.drop k) k = idxF (plaP r n) h 0) ∧ Below w3.heap.size w3 wr) (fun i _ => h.length - (intOf i).toNat)
  case atStart => exact ⟨0, Nat.zero_le _, rfl, rfl, Below.refl _ _⟩
  case round =>
    obtain ⟨k, hk, rfl, HF, hB⟩ := hrel
    by_cases hlt : k < h.length
    · obtain ⟨x, hx, _⟩ := get_lt hlt
      have HC := Lib.hid (idxF_step (p := plaP r n) hx)
      obtain ⟨b, off, rfl, _, _, _, hf⟩ := (hSh.below hB).at_ hx
      have c0 : wr.cell? ⟨b, off + k * 4, none⟩ = some (.int .i64 x.r) := (hf 0 _ rfl).1
      have c1 : wr.cell? ⟨b, off + k * 4 + 1, none⟩ = some (.int .i64 x.n) := (hf 1 _ rfl).1
      have c2 : wr.cell? ⟨b, off + k * 4 + 2, none⟩ = some (.int .i64 x.m) := (hf 2 _ rfl).1
      have c3 : wr.cell? ⟨b, off + k * 4 + 3, none⟩ = some (.string x.t) := (hf 3 _ rfl).1
      clear hf hx
      by_cases hq : plaP r n x = true
      · have HQ := Lib.hid (HC.out.trans (if_pos hq))
        have h12 : x.r = r ∧ x.n = n := by simpa [plaP] using hq
        have e1 : (x.r == r) = true := beq_iff_eq.2 h12.1
        have e2 : (x.n == n) = true := beq_iff_eq.2 h12.2
        clear hq HC h12
        go_wp2
        go_ret2
        have hBe : Below w.heap.size w (wr.alloc (Obj.cells #[.int .i64 x.r, .int .i64 x.n, .int .i64 x.m, .string x.t] 38)) := Below.on' hB3 (by go_grown)
        exact RV.mk (by rw [HY.out.1, HY.out.2, ← HF.out, HQ.out, show max (k : Int) 0 = k by omega, show decide (0 ≤ (k : Int)) = true by simp]; rfl) hBe
      · have HQ := Lib.hid (HC.out.trans (if_neg hq))
        clear HC
        by_cases hr : x.r = r
        · have e1 : (x.r == r) = true := beq_iff_eq.2 hr
          have e2 : (x.n == n) = false := beq_eq_false_iff_ne.2 (fun e => hq (by simp [plaP, hr, e]))
          clear hr hq
          go_wp2
          go_roundw
          case rel => exact ⟨k + 1, by omega, by go_num, Lib.hid (HQ.out.symm.trans HF.out), by go_grown⟩
          case measure => simp [intOf]; omega
        · have e1 : (x.r == r) = false := beq_eq_false_iff_ne.2 hr
          clear hr hq
          go_wp2
          go_roundw
          case rel => exact ⟨k + 1, by omega, by go_num, Lib.hid (HQ.out.symm.trans HF.out), by go_grown⟩
          case measure => simp [intOf]; omega
    · have hd : h.drop k = [] := List.drop_of_length_le (by omega)
      have HE : Hid (idxF (plaP r n) h 0 = -1) := Lib.hid (by have := HF.out; rw [hd] at this; exact this.symm)
      clear hd HF
      go_wp2
      go_ret2
      exact RV.mk (by rw [HY.out.1, HY.out.2, HE.out]; rfl) (Below.on' hB3 hB)
set_option maxHeartbeats 1000000 in
theorem PlaceOf_impl (Ah : Option Addr) (ch : Nat) (h : List Ent) (r : Int) (n : Int) (w : World) (hlh : h.length ≤ 1048576) (hmh : ∀ x ∈ h, x.t.size ≤ 1048576) (hSh : Ents w 0 w.heap.size Ah h) (hch : h.length ≤ ch) :
    Calls Tryz.prog 23 #[.slice Ah h.length ch, .int .i64 r, .int .i64 n] w (RV w (.tuple #[.int .i64 (plaI h r n), .bool (plaB h r n)])) := by
  have hcell : ∀ W, Below ((w.alloc (.cells #[.int .i64 r] 3)).alloc (.cells #[.int .i64 n] 3)).heap.size ((w.alloc (.cells #[.int .i64 r] 3)).alloc (.cells #[.int .i64 n] 3)) W → W.cell? ⟨w.heap.size, 0, none⟩ = some (.int .i64 r) ∧ W.cell? ⟨w.heap.size + 1, 0, none⟩ = some (.int .i64 n) := fun W hb =>
    ⟨keep hb (lay _ (by rw [World.cell?_alloc_at _ _ _ _ rfl]; rfl)), keep hb (by rw [World.cell?_alloc_at _ _ _ _ (by simp)]; rfl)⟩
  have hS0 := ((hSh.alloc (.cells #[.int .i64 r] 3)).alloc (.cells #[.int .i64 n] 3)).all
  go_enter Tryz.func23, Tryz.ntmps23
  go_wp2_with fail
  refine (isHistory_any Ah ch h _ hlh hmh hS0 hch).mono ?_
  rintro e w1 ⟨rfl, hb⟩
  obtain ⟨q0, q1⟩ := hcell _ hb
  have hB1 : Below w.heap.size w w1 := Below.on' (by go_grown) hb
  replace hSh := (hSh.below hB1).all
  clear hcell hS0 hb
  by_cases g1 : histB h = true
  rotate_left
  · have g1 : histB h = false := by simpa using g1
    have HN : Hid (plaI h r n = 0 ∧ plaB h r n = false) := Lib.hid (by simp [plaI, plaB, plaOk, g1])
    go_wp2
    go_ret2
    exact RV.mk (by rw [HN.out.1, HN.out.2]; rfl) hB1
  go_wp2_with fail
  refine (isRoom_any _ _).mono ?_
  rintro e w2 ⟨rfl, hb⟩
  have hb2 : Below w1.heap.size w1 w2 := Below.on' (by go_grown) hb
  clear hb
  have hB2 : Below w.heap.size w w2 := Below.on' hB1 hb2
  replace hSh := (hSh.below hb2).all
  replace q0 := keep hb2 q0
  replace q1 := keep hb2 q1
  by_cases g2 : roomB r = true
  rotate_left
  · have g2 : roomB r = false := by simpa using g2
    have HN : Hid (plaI h r n = 0 ∧ plaB h r n = false) := Lib.hid (by simp [plaI, plaB, plaOk, g2])
    go_wp2
    go_ret2
    exact RV.mk (by rw [HN.out.1, HN.out.2]; rfl) hB2
  go_wp2_with fail
  refine (inside_any _ _ _ _).mono ?_
  rintro e w3 ⟨rfl, hb⟩
  have hb3 : Below w2.heap.size w2 w3 := Below.on' (by go_grown) hb
  clear hb
  have hB3 : Below w.heap.size w w3 := Below.on' hB2 hb3
  replace hSh := (hSh.below hb3).all
  replace q0 := keep hb3 q0
  replace q1 := keep hb3 q1
  by_cases g3 : inB n 1 999 = true
  rotate_left
  · have g3 : inB n 1 999 = false := by simpa using g3
    have HN : Hid (plaI h r n = 0 ∧ plaB h r n = false) := Lib.hid (by simp [plaI, plaB, plaOk, g3])
    go_wp2
    go_ret2
    exact RV.mk (by rw [HN.out.1, HN.out.2]; rfl) hB3
  have HY : Hid (plaI h r n = max (idxF (plaP r n) h 0) 0 ∧ plaB h r n = decide (0 ≤ idxF (plaP r n) h 0)) := Lib.hid (by simp [plaI, plaB, plaOk, g1, g2, g3])
  have hP : Pred 50 #[.pointer (some ⟨w.heap.size, 0, none⟩), .pointer (some ⟨w.heap.size + 1, 0, none⟩)] (plaP r n) 0 0 h w3 := fun V x _ hF =>
    PlaceOf1_any x _ _ r n V ((World.cell?_of_block (hF.block _ (World.block_lt_of_cell? _ _ q0) (by omega))).trans q0) ((World.cell?_of_block (hF.block _ (World.block_lt_of_cell? _ _ q1) (by omega))).trans q1)
  have hge := idxF_ge (plaP r n) h 0
  go_wp2_with fail
  refine (IndexFuncE_any _ _ (plaP r n) Ah ch 0 w3.heap.size 0 0 h _ PlaceOf1_enters hlh hSh hP).mono ?_
  rintro e w4 ⟨rfl, hb⟩
  have hb4 : Below w3.heap.size w3 w4 := Below.on' (by go_grown) hb
  clear hb
  have hB4 : Below w.heap.size w w4 := Below.on' hB3 hb4
  replace hSh := (hSh.below hb4).all
  clear hP q0 q1 g1 g2 g3
  generalize idxF (plaP r n) h 0 = v at HY hge ⊢
  go_wp2
  all_goals go_ret2
  all_goals exact RV.mk (by rw [HY.out.1, HY.out.2]; first | rfl | (simp; omega)) hB4
def actF (m : Int) : List Ent → Int → Int
  | [], r => r
  | x :: l, r => actF m l (if x.m ≤ m then x.r else r)
theorem actF_step {m : Int} {l : List Ent} {k : Nat} {x : Ent} (hx : l[k]? = some x) (r : Int) : actF m (l.drop k) r = actF m (l.drop (k + 1)) (if x.m ≤ m then x.r else r) := by
  obtain ⟨h1, rfl⟩ := List.getElem?_eq_some_iff.1 hx
  rw [List.drop_eq_getElem_cons h1]
  rfl
def actOk (h : List Ent) (m : Int) : Bool := histB h && minB m
def actI (h : List Ent) (m : Int) : Int := if actOk h m = true then actF m h 0 else 0
def actB (h : List Ent) (m : Int) : Bool := actOk h m && decide (0 < actF m h 0)
set_option maxHeartbeats 1000000 in
theorem ActiveRoom_spec (Ah : Option Addr) (ch : Nat) (h : List Ent) (m : Int) (w : World) (hlh : h.length ≤ 1048576) (hmh : ∀ x ∈ h, x.t.size ≤ 1048576) (hSh : Ents w 0 w.heap.size Ah h) (hch : h.length ≤ ch) :
    Calls Tryz.prog 21 #[.slice Ah h.length ch, .int .i64 m] w (RV w (.tuple #[.int .i64 (actI h m), .bool (actB h m)])) := by
  go_enter Tryz.func21, Tryz.ntmps21
  go_wp2_with fail
  refine (mgGood_any Ah ch h _ hlh hmh hSh hch).mono ?_
  rintro e w1 ⟨rfl, hb⟩
  have hb1 : Below w.heap.size w w1 := Below.on' (by go_grown) hb
  clear hb
  have hB1 : Below w.heap.size w w1 := hb1
  replace hSh := (hSh.below hb1).all
  by_cases g1 : histB h = true
  rotate_left
  · have g1 : histB h = false := by simpa using g1
    have HN : Hid (actI h m = 0 ∧ actB h m = false) := Lib.hid (by simp [actI, actB, actOk, g1])
    go_wp2
    go_ret2
    exact RV.mk (by rw [HN.out.1, HN.out.2]; rfl) hB1
  go_wp2_with fail
  refine (lgMinute_any _ _).mono ?_
  rintro e w2 ⟨rfl, hb⟩
  have hb2 : Below w1.heap.size w1 w2 := Below.on' (by go_grown) hb
  clear hb
  have hB2 : Below w.heap.size w w2 := Below.on' hB1 hb2
  replace hSh := (hSh.below hb2).all
  by_cases g2 : minB m = true
  rotate_left
  · have g2 : minB m = false := by simpa using g2
    have HN : Hid (actI h m = 0 ∧ actB h m = false) := Lib.hid (by simp [actI, actB, actOk, g2])
    go_wp2
    go_ret2
    exact RV.mk (by rw [HN.out.1, HN.out.2]; rfl) hB2
  have HY : Hid (actI h m = actF m h 0 ∧ actB h m = decide (0 < actF m h 0)) := Lib.hid (by simp [actI, actB, actOk, g1, g2])
  go_wp2_with fail
  clear g1 g2
  go_loopw [6, 19] (fun s6 i wr => ∃ (k : Nat) (r : Int), k ≤ h.length ∧ i = .int .i64 k ∧ s6 = .int .i64 r ∧ Hid (actF m (h.drop k) r = actF m h 0) ∧ Below w2.heap.size w2 wr) (fun _ i _ => h.length - (intOf i).toNat)
  case atStart => exact ⟨0, 0, Nat.zero_le _, rfl, rfl, rfl, Below.refl _ _⟩
  case round =>
    obtain ⟨k, r, hk, rfl, rfl, HF, hB⟩ := hrel
    by_cases hlt : k < h.length
    · obtain ⟨x, hx, _⟩ := get_lt hlt
      have HC := Lib.hid (actF_step (m := m) hx r)
      obtain ⟨b, off, rfl, _, _, _, hf⟩ := (hSh.below hB).at_ hx
      have c0 : wr.cell? ⟨b, off + k * 4, none⟩ = some (.int .i64 x.r) := (hf 0 _ rfl).1
      have c1 : wr.cell? ⟨b, off + k * 4 + 1, none⟩ = some (.int .i64 x.n) := (hf 1 _ rfl).1
      have c2 : wr.cell? ⟨b, off + k * 4 + 2, none⟩ = some (.int .i64 x.m) := (hf 2 _ rfl).1
      have c3 : wr.cell? ⟨b, off + k * 4 + 3, none⟩ = some (.string x.t) := (hf 3 _ rfl).1
      clear hf hx
      by_cases hq : x.m ≤ m
      · have HQ : Hid (actF m (h.drop (k + 1)) x.r = actF m h 0) := Lib.hid (by rw [← HF.out, HC.out, if_pos hq])
        clear HC HF
        go_wp2
        go_roundw
        case rel => exact ⟨k + 1, x.r, by omega, by go_num, rfl, HQ, by go_grown⟩
        case measure => simp [intOf]; omega
      · have HQ : Hid (actF m (h.drop (k + 1)) r = actF m h 0) := Lib.hid (by rw [← HF.out, HC.out, if_neg hq])
        clear HC HF
        go_wp2
        go_roundw
        case rel => exact ⟨k + 1, r, by omega, by go_num, rfl, HQ, by go_grown⟩
        case measure => simp [intOf]; omega
    · have hd : h.drop k = [] := List.drop_of_length_le (by omega)
      have HE : Hid (actF m h 0 = r) := Lib.hid (by have := HF.out; rw [hd] at this; exact this.symm)
      clear hd HF
      go_wp2
      go_ret2
      exact RV.mk (by rw [HY.out.1, HY.out.2, HE.out]; first | rfl | simp) (Below.on' hB2 hB)
set_option maxHeartbeats 1000000 in
theorem ActiveRoom_impl (Ah : Option Addr) (ch : Nat) (h : List Ent) (m : Int) (w : World) (hlh : h.length ≤ 1048576) (hmh : ∀ x ∈ h, x.t.size ≤ 1048576) (hSh : Ents w 0 w.heap.size Ah h) (hch : h.length ≤ ch) :
    Calls Tryz.prog 20 #[.slice Ah h.length ch, .int .i64 m] w (RV w (.tuple #[.int .i64 (actI h m), .bool (actB h m)])) := by
  go_enter Tryz.func20, Tryz.ntmps20
  go_wp2_with fail
  refine (isHistory_any Ah ch h _ hlh hmh hSh hch).mono ?_
  rintro e w1 ⟨rfl, hb⟩
  have hb1 : Below w.heap.size w w1 := Below.on' (by go_grown) hb
  clear hb
  have hB1 : Below w.heap.size w w1 := hb1
  replace hSh := (hSh.below hb1).all
  by_cases g1 : histB h = true
  rotate_left
  · have g1 : histB h = false := by simpa using g1
    have HN : Hid (actI h m = 0 ∧ actB h m = false) := Lib.hid (by simp [actI, actB, actOk, g1])
    go_wp2
    go_ret2
    exact RV.mk (by rw [HN.out.1, HN.out.2]; rfl) hB1
  go_wp2_with fail
  refine (isLogMinute_any _ _).mono ?_
  rintro e w2 ⟨rfl, hb⟩
  have hb2 : Below w1.heap.size w1 w2 := Below.on' (by go_grown) hb
  clear hb
  have hB2 : Below w.heap.size w w2 := Below.on' hB1 hb2
  replace hSh := (hSh.below hb2).all
  by_cases g2 : minB m = true
  rotate_left
  · have g2 : minB m = false := by simpa using g2
    have HN : Hid (actI h m = 0 ∧ actB h m = false) := Lib.hid (by simp [actI, actB, actOk, g2])
    go_wp2
    go_ret2
    exact RV.mk (by rw [HN.out.1, HN.out.2]; rfl) hB2
  have HY : Hid (actI h m = actF m h 0 ∧ actB h m = decide (0 < actF m h 0)) := Lib.hid (by simp [actI, actB, actOk, g1, g2])
  go_wp2_with fail
  clear g1 g2
  go_loopw [6, 19] (fun s6 i wr => ∃ (k : Nat) (r : Int), k ≤ h.length ∧ i = .int .i64 k ∧ s6 = .int .i64 r ∧ Hid (actF m (h.drop k) r = actF m h 0) ∧ Below w2.heap.size w2 wr) (fun _ i _ => h.length - (intOf i).toNat)
  case atStart => exact ⟨0, 0, Nat.zero_le _, rfl, rfl, rfl, Below.refl _ _⟩
  case round =>
    obtain ⟨k, r, hk, rfl, rfl, HF, hB⟩ := hrel
    by_cases hlt : k < h.length
    · obtain ⟨x, hx, _⟩ := get_lt hlt
      have HC := Lib.hid (actF_step (m := m) hx r)
      obtain ⟨b, off, rfl, _, _, _, hf⟩ := (hSh.below hB).at_ hx
      have c0 : wr.cell? ⟨b, off + k * 4, none⟩ = some (.int .i64 x.r) := (hf 0 _ rfl).1
      have c1 : wr.cell? ⟨b, off + k * 4 + 1, none⟩ = some (.int .i64 x.n) := (hf 1 _ rfl).1
      have c2 : wr.cell? ⟨b, off + k * 4 + 2, none⟩ = some (.int .i64 x.m) := (hf 2 _ rfl).1
      have c3 : wr.cell? ⟨b, off + k * 4 + 3, none⟩ = some (.string x.t) := (hf 3 _ rfl).1
      clear hf hx
      by_cases hq : x.m ≤ m
      · have HQ : Hid (actF m (h.drop (k + 1)) x.r = actF m h 0) := Lib.hid (by rw [← HF.out, HC.out, if_pos hq])
        clear HC HF
        go_wp2
        go_roundw
        case rel => exact ⟨k + 1, x.r, by omega, by go_num, rfl, HQ, by go_grown⟩
        case measure => simp [intOf]; omega
      · have HQ : Hid (actF m (h.drop (k + 1)) r = actF m h 0) := Lib.hid (by rw [← HF.out, HC.out, if_neg hq])
        clear HC HF
        go_wp2
        go_roundw
        case rel => exact ⟨k + 1, r, by omega, by go_num, rfl, HQ, by go_grown⟩
        case measure => simp [intOf]; omega
    · have hd : h.drop k = [] := List.drop_of_length_le (by omega)
      have HE : Hid (actF m h 0 = r) := Lib.hid (by have := HF.out; rw [hd] at this; exact this.symm)
      clear hd HF
      go_wp2
      go_ret2
      exact RV.mk (by rw [HY.out.1, HY.out.2, HE.out]; first | rfl | simp) (Below.on' hB2 hB)
def hoF : List Ent → Int
  | x :: y :: l => (if y.r = x.r then 0 else 1) + hoF (y :: l)
  | _ => 0
theorem hoF_step {l : List Ent} {k : Nat} {x y : Ent} (hx : l[k]? = some x) (hy : l[k + 1]? = some y) : hoF (l.drop k) = (if y.r = x.r then 0 else 1) + hoF (l.drop (k + 1)) := by
  obtain ⟨h1, rfl⟩ := List.getElem?_eq_some_iff.1 hx
  obtain ⟨h2, rfl⟩ := List.getElem?_eq_some_iff.1 hy
  rw [List.drop_eq_getElem_cons h1, List.drop_eq_getElem_cons h2]
  rfl
theorem hoF_last {l : List Ent} {k : Nat} (h : l.length ≤ k + 1) : hoF (l.drop k) = 0 := by
  have hd : (l.drop k).length ≤ 1 := by simp; omega
  cases hh : l.drop k with
  | nil => rfl
  | cons a r =>
    cases r with
    | nil => rfl
    | cons b r => rw [hh] at hd; simp at hd
def hoI (h : List Ent) : Int := if histB h = true then hoF h else 0
/-- The call returned two slices in new memory, the second behind the first, and a bool. -/
def RS3 (w : World) (R R' : List Ent) (B : Bool) (e : Ending) (w' : World) : Prop :=
  ∃ A c A' c' mid, e = .returned (.tuple #[.slice A R.length c, .slice A' R'.length c', .bool B]) ∧ w.heap.size ≤ mid ∧ mid ≤ w'.heap.size ∧ Ents w' w.heap.size mid A R ∧ Ents w' mid w'.heap.size A' R' ∧ R.length ≤ c ∧ R'.length ≤ c' ∧ Below w.heap.size w w'
def RSS3 (w : World) (R R' : List Ent) (B : Bool) (e : Ending) (w' : World) : Prop :=
  ∃ A c A' c', e = .returned (.tuple #[.slice A R.length c, .slice A' R'.length c', .bool B]) ∧ Ents w' w.heap.size w'.heap.size A R ∧ Ents w' w.heap.size w'.heap.size A' R' ∧ R.length ≤ c ∧ R'.length ≤ c' ∧ Below w.heap.size w w'
def spl1 (h : List Ent) : List Ent := if histB h = true then of1 h else []
def spl2 (h : List Ent) : List Ent := if histB h = true then not1 h else []
theorem spl1_len (h : List Ent) : (spl1 h).length ≤ h.length := by
  unfold spl1
  split
  · exact of1_len h
  · exact Nat.zero_le _
theorem spl2_len (h : List Ent) : (spl2 h).length ≤ h.length := by
  unfold spl2
  split
  · exact not1_len h
  · exact Nat.zero_le _
theorem hist_of2 {h : List Ent} (hh : histB h = true) : of2 h = not1 h := by
  rw [← hist_eq] at hh
  unfold histI at hh
  simp only [Bool.and_eq_true, decide_eq_true_eq] at hh
  have hn := len_not1 h
  obtain ⟨h1, h2⟩ := len_of2 h
  exact (h2 (by omega)).1
end Go.Proofs.YtmdmcjhodhphgaaGreat

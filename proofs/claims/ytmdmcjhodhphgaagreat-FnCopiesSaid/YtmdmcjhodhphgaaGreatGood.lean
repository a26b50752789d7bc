/- The entries of one room, and the tests of a history. Conditions: lists and texts of at most 2^20. -/
import Derived.Test.YtmdmcjhodhphgaaGreatSpl
namespace Go.Proofs.YtmdmcjhodhphgaaGreat
open Go.RowKit

def ofR (r : Int) (h : List Ent) : List Ent := h.filter fun x => decide (x.r = r)
theorem ofR_len (r : Int) (h : List Ent) : (ofR r h).length ≤ h.length := List.length_filter_le _ _
theorem ofR_mem {r : Int} {h : List Ent} {P : Ent → Prop} (hp : ∀ x ∈ h, P x) : ∀ x ∈ ofR r h, P x := fun x hx => hp x (List.mem_filter.1 hx).1
theorem not1_len (h : List Ent) : (not1 h).length ≤ h.length := List.length_filter_le _ _
theorem not1_mem {h : List Ent} {P : Ent → Prop} (hp : ∀ x ∈ h, P x) : ∀ x ∈ not1 h, P x := fun x hx => hp x (List.mem_filter.1 hx).1
theorem of1_len (h : List Ent) : (of1 h).length ≤ h.length := List.length_filter_le _ _
theorem of1_mem {h : List Ent} {P : Ent → Prop} (hp : ∀ x ∈ h, P x) : ∀ x ∈ of1 h, P x := fun x hx => hp x (List.mem_filter.1 hx).1
theorem entriesOf1_any (x : Ent) (B : Nat) (room : Int) (W : World) (hB : W.cell? ⟨B, 0, none⟩ = some (.int .i64 room)) :
    Calls Tryz.prog 76 #[.agg #[.int .i64 x.r, .int .i64 x.n, .int .i64 x.m, .string x.t], .pointer (some ⟨B, 0, none⟩)] W fun e w' => e = .returned (.bool (!decide (x.r = room))) ∧ Below W.heap.size W w' := by
  have hB2 := lay (.cells #[.int .i64 x.r, .int .i64 x.n, .int .i64 x.m, .string x.t] 38) hB
  clear hB
  go_enter Tryz.func76, Tryz.ntmps76
  go_wp2
  go_ret
  exact ⟨by simp; rw [Bool.eq_iff_iff]; simp, by go_grown⟩
theorem entriesOf1_enters : Enters 76 := enters Tryz.func76 (by kernel_rfl) (by kernel_rfl)
set_option maxHeartbeats 1000000 in
theorem entriesOf_any (A : Option Addr) (c : Nat) (h : List Ent) (room : Int) (w : World) (hl : h.length ≤ 1048576) (hS : Ents w 0 w.heap.size A h) :
    Calls Tryz.prog 63 #[.slice A h.length c, .int .i64 room] w (RS1 Ent.cells 4 w (ofR room h)) := by
  have hcell : (w.alloc (.cells #[.int .i64 room] 3)).cell? ⟨w.heap.size, 0, none⟩ = some (.int .i64 room) := by
    rw [World.cell?_alloc_at _ _ _ _ rfl]; rfl
  have hS0 := (hS.alloc (.cells #[.int .i64 room] 3)).all
  go_enter Tryz.func63, Tryz.ntmps63
  go_wp2_with fail
  generalize hW : w.alloc (.cells #[.int .i64 room] 3) = W at hcell hS0 ⊢
  have hBW : Below w.heap.size w W := by rw [← hW]; go_grown
  have hsz : w.heap.size + 1 = W.heap.size := by rw [← hW]; simp
  have hsz2 : w.heap.size < W.heap.size := by omega
  clear hW hsz hS
  refine (CloneE_any A c h W hl hS0).mono ?_
  rintro e w1 ⟨A1, c1, rfl, hO, hb⟩
  have hB1 : Below w.heap.size w w1 := hBW.trans (hb.mono hBW.size)
  have hc1 := keep hb hcell
  have hcap := hO.cap
  have hcm := hO.capMax
  have hS1 := hO.sl Ent.len
  clear hcell hS0 hb hO
  go_wp2_with fail
  have hP : Pred 76 #[.pointer (some ⟨w.heap.size, 0, none⟩)] (fun x => !decide (x.r = room)) W.heap.size w1.heap.size h w1 := fun V x _ hF =>
    entriesOf1_any x _ room V ((World.cell?_of_block (hF.block _ (World.block_lt_of_cell? _ _ hc1) (by show ¬ (W.heap.size ≤ w.heap.size ∧ _); omega))).trans hc1)
  refine (DeleteFuncE_any _ _ (fun x => !decide (x.r = room)) A1 c1 W.heap.size w1.heap.size h w1 entriesOf1_enters hl hcap hcm hS1 hP).mono ?_
  rintro e w2 ⟨rfl, hT, hF⟩
  have hB2 : Below w.heap.size w w2 := hB1.trans (hF.below (by omega) hB1.size)
  have hsz3 := hF.size
  have hf : (h.filter fun x => !(fun x : Ent => !decide (x.r = room)) x) = ofR room h := by simp [ofR]
  have hle : (ofR room h).length ≤ c1 := Nat.le_trans (ofR_len room h) hcap
  rw [hf] at hT ⊢
  clear hf hP hc1 hS1 hF
  go_wp2
  go_ret
  exact ⟨A1, c1, rfl, hT.mono (by omega) hsz3 (Nat.le_refl _), hle, hB2⟩
set_option maxHeartbeats 1000000 in
theorem mgGood_any (Ah : Option Addr) (ch : Nat) (h : List Ent) (w : World) (hlh : h.length ≤ 1048576) (hmh : ∀ x ∈ h, x.t.size ≤ 1048576) (hSh : Ents w 0 w.heap.size Ah h) (_hch : h.length ≤ ch) :
    Calls Tryz.prog 45 #[.slice Ah h.length ch] w (RV w (.bool (histB h))) := by
  go_enter Tryz.func45, Tryz.ntmps45
  have hm1 := bigs hmh
  go_wp2_with fail
  refine (mgSplit_any Ah ch h _ hlh hSh).mono ?_
  rintro e w1 ⟨A1, c1, A2, c2, rfl, hT1, hT2, hc1, hc2, hb⟩
  have hb1 : Below w.heap.size w w1 := Below.on' (by go_grown) hb
  clear hb
  have hB1 : Below w.heap.size w w1 := hb1
  replace hSh := (hSh.below hb1).all
  replace hT1 := hT1.all
  replace hT2 := hT2.all
  have l1 := of1_len h
  have l2 := not1_len h
  have k1 : (of1 h).length ≤ 1048576 := by omega
  have k2 : (not1 h).length ≤ 1048576 := by omega
  go_wp2_with fail
  refine (mgTwo_any A1 A2 c1 c2 (of1 h) (not1 h) _ (big k1) (of1_mem hm1) hT1 (big k2) (not1_mem hm1) hT2).mono ?_
  rintro e w2 ⟨rfl, hb⟩
  have hb2 : Below w1.heap.size w1 w2 := Below.on' (by go_grown) hb
  clear hb
  have hB2 : Below w.heap.size w w2 := Below.on' hB1 hb2
  replace hSh := (hSh.below hb2).all
  replace hT1 := (hT1.below hb2).all
  replace hT2 := (hT2.below hb2).all
  by_cases g2 : twoB (of1 h) (not1 h) = true
  rotate_left
  · have g2 : twoB (of1 h) (not1 h) = false := by simpa using g2
    have HN : Hid (histB h = false) := Lib.hid (by simp [histB, g2])
    go_wp2
    go_ret
    exact RV.mk (by rw [HN.out]; rfl) hB2
  go_wp2_with fail
  refine (mgOf_any A2 c2 (not1 h) 2 _ k2 hT2).mono ?_
  rintro e w3 ⟨rfl, hb⟩
  have hb3 : Below w2.heap.size w2 w3 := Below.on' (by go_grown) hb
  clear hb
  have hB3 : Below w.heap.size w w3 := Below.on' hB2 hb3
  replace hSh := (hSh.below hb3).all
  replace hT1 := (hT1.below hb3).all
  replace hT2 := (hT2.below hb3).all
  by_cases g3 : ofB (not1 h) 2 = true
  rotate_left
  · have g3 : ofB (not1 h) 2 = false := by simpa using g3
    have HN : Hid (histB h = false) := Lib.hid (by simp [histB, g3])
    go_wp2
    go_ret
    exact RV.mk (by rw [HN.out]; rfl) hB3
  have HY : Hid (histB h = begF h (mrg (of1 h) (not1 h))) := Lib.hid (by simp [histB, g2, g3])
  go_wp2_with fail
  refine (mgHistory_any A1 A2 c1 c2 (of1 h) (not1 h) _ k1 k2 hT1 hT2).mono ?_
  rintro e w4 ⟨A3, c3, rfl, hO, hb⟩
  have hb4 : Below w3.heap.size w3 w4 := Below.on' (by go_grown) hb
  clear hb
  have hB4 : Below w.heap.size w w4 := Below.on' hB3 hb4
  replace hSh := (hSh.below hb4).all
  replace hT1 := (hT1.below hb4).all
  replace hT2 := (hT2.below hb4).all
  have k3 : (mrg (of1 h) (not1 h)).length ≤ 1048576 := by rw [mrg_len _ _ _ (Nat.le_refl _), len_not1]; exact hlh
  go_wp2_with fail
  refine (mgBegins_any Ah A3 ch c3 h (mrg (of1 h) (not1 h)) _ (big hlh) hSh (big k3) (hO.sl Ent.len).all).mono ?_
  rintro e w5 ⟨rfl, hb⟩
  have hb5 : Below w4.heap.size w4 w5 := Below.on' (by go_grown) hb
  clear hb
  have hB5 : Below w.heap.size w w5 := Below.on' hB4 hb5
  replace hSh := (hSh.below hb5).all
  replace hT1 := (hT1.below hb5).all
  replace hT2 := (hT2.below hb5).all
  go_wp2
  go_ret
  exact RV.mk (by rw [HY.out]; rfl) hB5
set_option maxHeartbeats 1000000 in
theorem isHistory_any (Ah : Option Addr) (ch : Nat) (h : List Ent) (w : World) (hlh : h.length ≤ 1048576) (hmh : ∀ x ∈ h, x.t.size ≤ 1048576) (hSh : Ents w 0 w.heap.size Ah h) (_hch : h.length ≤ ch) :
    Calls Tryz.prog 43 #[.slice Ah h.length ch] w (RV w (.bool (histB h))) := by
  rw [← hist_eq]
  go_enter Tryz.func43, Tryz.ntmps43
  have hm1 := bigs hmh
  go_wp2_with fail
  refine (entriesOf_any Ah ch h 1 _ hlh hSh).mono ?_
  rintro e w1 ⟨A1, c1, rfl, hT1, hc1, hb⟩
  have hb1 : Below w.heap.size w w1 := Below.on' (by go_grown) hb
  clear hb
  have hB1 : Below w.heap.size w w1 := hb1
  replace hSh := (hSh.below hb1).all
  replace hT1 := hT1.all
  go_wp2_with fail
  refine (entriesOf_any Ah ch h 2 _ hlh hSh).mono ?_
  rintro e w2 ⟨A2, c2, rfl, hT2, hc2, hb⟩
  have hb2 : Below w1.heap.size w1 w2 := Below.on' (by go_grown) hb
  clear hb
  have hB2 : Below w.heap.size w w2 := Below.on' hB1 hb2
  replace hSh := (hSh.below hb2).all
  replace hT1 := (hT1.below hb2).all
  replace hT2 := hT2.all
  have l1 := ofR_len 1 h
  have l2 := ofR_len 2 h
  have k1 : (ofR 1 h).length ≤ 1048576 := by omega
  have k2 : (ofR 2 h).length ≤ 1048576 := by omega
  have HE : Hid (histI h = (decide ((ofR 1 h).length + (ofR 2 h).length = h.length) && logB (ofR 1 h) && logB (ofR 2 h) && adjB h)) := Lib.hid rfl
  by_cases g0 : (ofR 1 h).length + (ofR 2 h).length = h.length
  rotate_left
  · have HN : Hid (histI h = false) := Lib.hid (by rw [HE.out]; simp [g0])
    have g0' : (((ofR 1 h).length : Int) + (ofR 2 h).length == (h.length : Int)) = false := beq_eq_false_iff_ne.2 (by omega)
    clear g0
    go_wp2
    go_ret
    exact RV.mk (by rw [HN.out]; rfl) hB2
  have g0' : (((ofR 1 h).length : Int) + (ofR 2 h).length == (h.length : Int)) = true := beq_iff_eq.2 (by omega)
  replace g0 := Lib.hid g0
  go_wp2_with fail
  refine (isLog_any A1 c1 (ofR 1 h) _ (big k1) (ofR_mem hm1) hT1).mono ?_
  rintro e w3 ⟨rfl, hb⟩
  have hb3 : Below w2.heap.size w2 w3 := Below.on' (by go_grown) hb
  clear hb
  have hB3 : Below w.heap.size w w3 := Below.on' hB2 hb3
  replace hSh := (hSh.below hb3).all
  replace hT1 := (hT1.below hb3).all
  replace hT2 := (hT2.below hb3).all
  by_cases g3 : logB (ofR 1 h) = true
  rotate_left
  · have g3 : logB (ofR 1 h) = false := by simpa using g3
    have HN : Hid (histI h = false) := Lib.hid (by rw [HE.out]; simp [g3])
    go_wp2
    go_ret
    exact RV.mk (by rw [HN.out]; rfl) hB3
  go_wp2_with fail
  refine (isLog_any A2 c2 (ofR 2 h) _ (big k2) (ofR_mem hm1) hT2).mono ?_
  rintro e w4 ⟨rfl, hb⟩
  have hb4 : Below w3.heap.size w3 w4 := Below.on' (by go_grown) hb
  clear hb
  have hB4 : Below w.heap.size w w4 := Below.on' hB3 hb4
  replace hSh := (hSh.below hb4).all
  replace hT1 := (hT1.below hb4).all
  replace hT2 := (hT2.below hb4).all
  by_cases g4 : logB (ofR 2 h) = true
  rotate_left
  · have g4 : logB (ofR 2 h) = false := by simpa using g4
    have HN : Hid (histI h = false) := Lib.hid (by rw [HE.out]; simp [g4])
    go_wp2
    go_ret
    exact RV.mk (by rw [HN.out]; rfl) hB4
  have HY : Hid (histI h = adjB h) := Lib.hid (by rw [HE.out]; simp [g0.out, g3, g4])
  go_wp2_with fail
  refine (IsSortedE_any Ah ch h _ hlh hSh).mono ?_
  rintro e w5 ⟨rfl, hb⟩
  have hb5 : Below w4.heap.size w4 w5 := Below.on' (by go_grown) hb
  clear hb
  have hB5 : Below w.heap.size w w5 := Below.on' hB4 hb5
  replace hSh := (hSh.below hb5).all
  replace hT1 := (hT1.below hb5).all
  replace hT2 := (hT2.below hb5).all
  go_wp2
  go_ret
  exact RV.mk (by rw [HY.out]; rfl) hB5
end Go.Proofs.YtmdmcjhodhphgaaGreat

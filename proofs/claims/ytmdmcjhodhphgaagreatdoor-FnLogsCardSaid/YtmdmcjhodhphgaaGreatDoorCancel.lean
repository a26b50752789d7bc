/- Cancelling an entry: what the program and the reference return. Conditions: lists and texts of at most 2^20; the listed variables as Said has them. -/
import Derived.Test.YtmdmcjhodhphgaaGreatDoorLive
import Derived.Test.YtmdmcjhodhphgaaGreatDoorCopy
import Derived.Test.YtmdmcjhodhphgaaGreatDoorItoa
import Derived.Test.YtmdmcjhodhphgaaGreatDoorReg
namespace Go.Proofs.YtmdmcjhodhphgaaGreatDoor
open Go.RowKit

def hdR (l : List Ent) : Int := match l[0]? with | some x => x.r | none => 0
def canPre (l : List Ent) (n : Int) : Bool := logB l && inB n 1 l.length && ((liveF l)[(n - 1).toNat]? == some true)
def canR (l : List Ent) (m n : Int) : List Ent := if canPre l n = true then lgAppR l (hdR l) m (canT n.toNat) else []
def canOk (l : List Ent) (m n : Int) : Bool := canPre l n && logB (appL l (hdR l) m (canT n.toNat))
theorem lgAppR_len (l : List Ent) (r m : Int) (t : ByteArray) : (lgAppR l r m t).length ≤ 1048576 := by
  unfold lgAppR
  split
  · rename_i h; have := logB_len h; omega
  · exact Nat.zero_le _
theorem canR_len (l : List Ent) (m n : Int) : (canR l m n).length ≤ 1048576 := by
  unfold canR
  split
  · exact lgAppR_len _ _ _ _
  · exact Nat.zero_le _
theorem can_no {l : List Ent} {m n : Int} (h : canPre l n = false) : canR l m n = [] ∧ canOk l m n = false := by simp [canR, canOk, h]
theorem can_min {l : List Ent} {m n : Int} (h : minB m = false) : canR l m n = [] ∧ canOk l m n = false := by
  have h1 : logB (appL l (hdR l) m (canT n.toNat)) = false := by
    rw [Bool.eq_false_iff]
    intro h2
    have := (app_last h2).2.1
    rw [h] at this; cases this
  refine ⟨by simp [canR, lgAppR, h1], by rw [canOk, h1, Bool.and_false]⟩
theorem can_yes {l : List Ent} {m n : Int} (h : canPre l n = true) : canR l m n = lgAppR l (hdR l) m (canT n.toNat) ∧ canOk l m n = logB (appL l (hdR l) m (canT n.toNat)) := by simp [canR, canOk, h]
theorem live_mem (l : List Ent) (j : Nat) : (liveR l).contains (j : Int) = ((liveF l)[j]? == some true) := by
  rw [Bool.eq_iff_iff, List.contains_iff_mem, beq_iff_eq, liveR, idxF_mem]
  constructor
  · rintro ⟨k, h1, h2⟩
    obtain rfl : j = k := by omega
    exact h2
  · intro h
    exact ⟨j, by simp, h⟩
theorem containsInts_any (A : Option Addr) (c : Nat) (l : List Int) (x : Int) (w : World) (lo hi : Nat) (hl : l.length ≤ 1048576) (hS : Ints w lo hi A l) : Calls Tryz.prog 60 #[.slice A l.length c, .int .i64 x] w (RV w (.bool (l.contains x))) := by
  cases l with
  | nil =>
    refine (Tryz.slices_Contains_int_empty A c x w).mono ?_
    rintro e w' ⟨rfl, rfl⟩
    exact RV.mk rfl (Below.refl _ _)
  | cons y r =>
    obtain ⟨b, off, rfl, _⟩ := hS (by simp)
    refine (Tryz.slices_Contains_int b off (y :: r).length c (y :: r) x w (Nat.le_refl _) (by omega) (fun j hj => ?_)).mono ?_
    · obtain ⟨_, _, e, _, _, _, h, _⟩ := Ints.at1 hS (List.getElem?_eq_getElem hj)
      cases e
      rw [h, List.getD_eq_getElem?_getD, List.getElem?_eq_getElem hj]; rfl
    · rintro e w' ⟨rfl, rfl⟩
      rw [List.take_length]
      exact RV.mk rfl (Below.refl _ _)
theorem numT_len' {n k : Nat} (hk : 1 ≤ k) (h : n < 10 ^ k) : (numT n).size ≤ k := by rw [Lib.size_eq, numT_dec]; exact dec_len hk h
set_option maxRecDepth 100000 in
set_option maxHeartbeats 2000000 in
theorem CancelEntry_spec (Al : Option Addr) (cl : Nat) (l : List Ent) (m n : Int) (w : World) (hll : l.length ≤ 1048576) (hml : ∀ x ∈ l, x.t.size ≤ 1048576) (hSl : Ents w 0 w.heap.size Al l) (hcl : l.length ≤ cl) : Calls Tryz.prog 14 #[.slice Al l.length cl, .int .i64 m, .int .i64 n] w (RS2 Ent.cells 4 w (canR l m n) (canOk l m n)) := by
  have hg := lgGood_any Al cl l w (big hll) (bigs hml) hSl
  go_enter Tryz.func14, Tryz.ntmps14
  go_wp2_with fail
  refine hg.mono ?_
  rintro e w1 ⟨rfl, hb1⟩
  clear hg
  by_cases g1 : logB l = true
  rotate_left
  · have g1 : logB l = false := by simpa using g1
    rw [g1]
    have HN := Lib.hid (can_no (m := m) (show canPre l n = false by rw [canPre, g1]; rfl))
    go_wp2
    go_ret2
    exact RS2.nil_ HN.out.1 HN.out.2 hb1
  rw [g1]
  go_wp2_with fail
  refine (l1In_any _ _ _ _).mono ?_
  rintro e w2 ⟨rfl, hb⟩
  have hb2 := Below.on' hb1 hb
  clear hb
  by_cases g2 : inB n 1 l.length = true
  rotate_left
  · have g2 : inB n 1 l.length = false := by simpa using g2
    rw [g2]
    have HN := Lib.hid (can_no (m := m) (show canPre l n = false by rw [canPre, g2, Bool.and_false]; rfl))
    go_wp2
    go_ret2
    exact RS2.nil_ HN.out.1 HN.out.2 hb2
  obtain ⟨j, rfl⟩ : ∃ j : Nat, n = (j : Int) + 1 := ⟨(n - 1).toNat, by simp [inB] at g2; omega⟩
  have hjl : j < l.length := by simp [inB] at g2; omega
  rw [g2]
  go_wp2_with fail
  refine (lgLive_any Al cl l _ hll hml (hSl.below hb2).all hcl).mono ?_
  rintro e wq ⟨Ag, cg, rfl, hG, _, hb⟩
  have hBq := Below.on' hb2 hb
  have hSW := (hSl.below hBq).all
  clear hb hb1 hb2 hSl
  obtain ⟨y, hy, _⟩ := get_lt (show j < (liveF l).length by rw [liveF_len]; exact hjl)
  have hw1 : IntKind.i64.wrap ((j : Int) + 1 - 1) = (j : Int) := by rw [show (j : Int) + 1 - 1 = j by omega]; exact IntWalk.i64_in _ (by omega)
  have hjF : j < (liveF l).length := by rw [liveF_len]; exact hjl
  have HY : Hid (canPre l ((j : Int) + 1) = y) := Lib.hid (by
    unfold canPre
    rw [g1, g2, show ((j : Int) + 1 - 1).toNat = j by omega, hy]
    cases y <;> rfl)
  obtain ⟨gb, go, rfl, _, _, _, d0, d1⟩ := Bools.at1 hG hy
  clear hy hG
  have hl0 : 0 < l.length := by omega
  have hl20 := logB_len g1
  cases y with
  | false =>
    clear g1 g2
    have HN := Lib.hid (can_no (m := m) HY.out)
    go_wp2
    go_ret2
    exact RS2.nil_ HN.out.1 HN.out.2 hBq
  | true =>
  have HP : Hid (canPre l ((j : Int) + 1) = true) := Lib.hid HY.out
  clear HY g1 g2
  obtain ⟨x, hx, hxm⟩ := get_lt hl0
  obtain ⟨b, off, rfl, _, _, _, hf⟩ := hSW.at_ hx
  have c0 : wq.cell? ⟨b, off, none⟩ = some (.int .i64 x.r) := by have := (hf 0 _ rfl).1; rw [Nat.zero_mul] at this; exact this
  have hhd : Hid (hdR l = x.r) := Lib.hid (by unfold hdR; rw [hx])
  have hsz := numT_size (j + 1)
  have hcn : ∀ W, Calls Tryz.prog 65 #[.int .i64 ((j : Int) + 1)] W (RV W (.string (numT (j + 1)))) := fun W => (show ((j + 1 : Nat) : Int) = (j : Int) + 1 from rfl) ▸ l1Num_any (j + 1) (by omega) W
  have HT : Hid (canT (j + 1) = ⟨#[99, 97, 110, 99, 101, 108, 32]⟩ ++ numT (j + 1)) := Lib.hid rfl
  have hts : (canT (j + 1)).size ≤ 1048576 := by
    rw [HT.out, ByteArray.size_append]
    have h1 := numT_len' (n := j + 1) (k := 2) (by omega) (by omega)
    have h2 : (⟨#[99, 97, 110, 99, 101, 108, 32]⟩ : ByteArray).size = 7 := rfl
    omega
  have hs1 : 7 + (numT (j + 1)).size ≤ 9223372036854775807 := by omega
  rw [HT.out] at hts
  generalize numT (j + 1) = T at hcn HT hts hs1
  have HF : Hid (canR l m ((j : Int) + 1) = lgAppR l x.r m (⟨#[99, 97, 110, 99, 101, 108, 32]⟩ ++ T) ∧ canOk l m ((j : Int) + 1) = logB (appL l x.r m (⟨#[99, 97, 110, 99, 101, 108, 32]⟩ ++ T))) := Lib.hid (by
    have h1 := can_yes (m := m) HP.out
    rw [h1.1, h1.2, hhd.out, show ((j : Int) + 1).toNat = j + 1 by omega, HT.out]
    exact ⟨rfl, rfl⟩)
  obtain ⟨TT, hTT⟩ : ∃ TT : ByteArray, TT = ⟨#[99, 97, 110, 99, 101, 108, 32]⟩ ++ T := ⟨_, rfl⟩
  have hca : ∀ W, Ents W 0 W.heap.size (some ⟨b, off, none⟩) l → Calls Tryz.prog 56 #[.slice (some ⟨b, off, none⟩) l.length cl, .int .i64 x.r, .int .i64 m, .string TT] W (RS2 Ent.cells 4 W (lgAppR l x.r m TT) (logB (appL l x.r m TT))) := fun W hW => lgAppend_any (some ⟨b, off, none⟩) cl l x.r m TT W hll hml hW hcl (by rw [hTT]; exact hts)
  rw [← hTT] at HF
  generalize lgAppR l x.r m TT = R at HF hca
  generalize logB (appL l x.r m TT) = B at HF hca
  rw [hTT] at hca
  clear hx hxm hf hTT HP HT hhd
  go_upto_region 3 with fail
  refine wp_region_held_drew (S := fun w' => Below wq.drew.heap.size wq.drew w') (by kernel_rfl) (Below.refl _ _) (fun _ => ?_)
  have hB0 : Below w.heap.size w wq.drew := hBq.drew
  have hcls : ∀ w', Below wq.drew.heap.size wq.drew w' → w'.cell? ⟨b, off, none⟩ = some (.int .i64 x.r) := fun w' h => keep h c0
  have hcn' : ∀ W, Below wq.drew.heap.size wq.drew W → Calls Tryz.prog 65 #[.int .i64 ((j : Int) + 1)] W (RV W (.string T)) := fun W _ => hcn W
  have hSD : ∀ W, Below wq.drew.heap.size wq.drew W → Ents W 0 W.heap.size (some ⟨b, off, none⟩) l := fun W hW => ((hSW.drew).below hW).all
  clear hcn c0 hBq
  generalize wq.drew = W0 at hB0 hcls hcn' hSD ⊢
  change wpAnyH _ _ _ _ _ 14 #[false, false, false, false, false, false, false, false, false, false, false, false, false, false] _ _
  refine wpAnyH_takeL (i := 0) (v := .slice (some ⟨b, off, none⟩) l.length cl) rfl (by kernel_rfl) (by kernel_rfl) (by kernel_rfl) (fun _ _ _ h => h) (Or.inl ⟨by rfl, fun w' hw' => by have y0 := hcls w' hw'; go_simp⟩) (Below.refl _ _) ?_
  simp only [Act.put, List.setIfInBounds_toArray, List.set_cons_zero, List.set_cons_succ]
  refine wpAnyH_takeL (i := 1) (v := .slice (some ⟨b, off, none⟩) l.length cl) rfl (by kernel_rfl) (by kernel_rfl) (by kernel_rfl) (fun _ _ _ h => h) (Or.inl ⟨by rfl, fun w' hw' => by have y0 := hcls w' hw'; go_simp⟩) (Below.refl _ _) ?_
  simp only [Act.put, List.setIfInBounds_toArray, List.set_cons_zero, List.set_cons_succ]
  refine wpAnyH_takeL (i := 2) (v := .pointer (some ⟨b, off, none⟩)) rfl (by kernel_rfl) (by kernel_rfl) (by kernel_rfl) (fun _ _ _ h => h) (Or.inl ⟨by rfl, fun w' hw' => by have y0 := hcls w' hw'; go_simp⟩) (Below.refl _ _) ?_
  simp only [Act.put, List.setIfInBounds_toArray, List.set_cons_zero, List.set_cons_succ]
  refine wpAnyH_takeL (i := 3) (v := .pointer (some ⟨b, off, none⟩)) rfl (by kernel_rfl) (by kernel_rfl) (by kernel_rfl) (fun _ _ _ h => h) (Or.inl ⟨by rfl, fun w' hw' => by have y0 := hcls w' hw'; go_simp⟩) (Below.refl _ _) ?_
  simp only [Act.put, List.setIfInBounds_toArray, List.set_cons_zero, List.set_cons_succ]
  refine wpAnyH_takeL (i := 4) (v := .int .i64 x.r) rfl (by kernel_rfl) (by kernel_rfl) (by kernel_rfl) (fun _ _ _ h => h) (Or.inl ⟨by rfl, fun w' hw' => by have y0 := hcls w' hw'; go_simp⟩) (Below.refl _ _) ?_
  simp only [Act.put, List.setIfInBounds_toArray, List.set_cons_zero, List.set_cons_succ]
  refine wpAnyH_takeL (i := 5) (v := .int .i64 m) rfl (by kernel_rfl) (by kernel_rfl) (by kernel_rfl) (fun _ _ _ h => h) (Or.inl ⟨by rfl, fun w' hw' => by have y0 := hcls w' hw'; go_simp⟩) (Below.refl _ _) ?_
  simp only [Act.put, List.setIfInBounds_toArray, List.set_cons_zero, List.set_cons_succ]
  refine wpAnyH_takeL (i := 6) (v := .int .i64 ((j : Int) + 1)) rfl (by kernel_rfl) (by kernel_rfl) (by kernel_rfl) (fun _ _ _ h => h) (Or.inl ⟨by rfl, fun w' hw' => by have y0 := hcls w' hw'; go_simp⟩) (Below.refl _ _) ?_
  simp only [Act.put, List.setIfInBounds_toArray, List.set_cons_zero, List.set_cons_succ]
  refine wpAnyH_ready (rs := [7]) (by kernel_rfl) (by simp) ?_
  refine AllReadyH.consL rfl (fun K hK => ?_) AllReadyH.nil
  go_simp
  go_at_call 65
  refine (hcn' W0 (Below.refl _ _)).mono ?_
  rintro e V ⟨rfl, hb⟩
  go_simp
  refine hK.out _ _ hb (fun _ => ?_)
  clear hK K
  simp only [List.setIfInBounds_toArray, List.set_cons_zero, List.set_cons_succ]
  refine wpAnyH_takeL (i := 8) (v := .string (⟨#[99, 97, 110, 99, 101, 108, 32]⟩ ++ T)) rfl (by kernel_rfl) (by kernel_rfl) (by kernel_rfl) (fun _ _ _ h => h) (Or.inl ⟨by rfl, fun w' hw' => by have y0 := hcls w' hw'; go_simp⟩) hb ?_
  simp only [Act.put, List.setIfInBounds_toArray, List.set_cons_zero, List.set_cons_succ]
  refine wpAnyH_ready (rs := [9]) (by kernel_rfl) (by simp) ?_
  refine AllReadyH.consL rfl (fun K hK => ?_) AllReadyH.nil
  go_simp
  go_at_call 56
  refine (hca V (hSD V hb)).mono ?_
  rintro e V2 ⟨A2, c2, rfl, hS2, hc2, hb2⟩
  go_simp
  have hSV : Below W0.heap.size W0 V2 := hb.trans (hb2.mono hb.size)
  refine hK.out _ _ hSV (fun _ => ?_)
  clear hK K
  simp only [List.setIfInBounds_toArray, List.set_cons_zero, List.set_cons_succ]
  have hBf : Below w.heap.size w V2 := Below.on' (Below.on' hB0 hb) hb2
  have hzV : w.heap.size ≤ V.heap.size := (Below.on' hB0 hb).size
  clear hts hs1 hSD hcn' hca
  refine wpAnyH_takeL (i := 10) (v := .slice A2 R.length c2) rfl (by kernel_rfl) (by kernel_rfl) (by kernel_rfl) (fun _ _ _ h => h) (Or.inl ⟨by rfl, fun w' hw' => by have y0 := hcls w' hw'; go_simp⟩) hSV ?_
  simp only [Act.put, List.setIfInBounds_toArray, List.set_cons_zero, List.set_cons_succ]
  refine wpAnyH_takeL (i := 11) (v := .bool B) rfl (by kernel_rfl) (by kernel_rfl) (by kernel_rfl) (fun _ _ _ h => h) (Or.inl ⟨by rfl, fun w' hw' => by have y0 := hcls w' hw'; go_simp⟩) hSV ?_
  simp only [Act.put, List.setIfInBounds_toArray, List.set_cons_zero, List.set_cons_succ]
  refine wpAnyH_takeL (i := 12) (v := .slice A2 R.length c2) rfl (by kernel_rfl) (by kernel_rfl) (by kernel_rfl) (fun _ _ _ h => h) (Or.inl ⟨by rfl, fun w' hw' => by have y0 := hcls w' hw'; go_simp⟩) hSV ?_
  simp only [Act.put, List.setIfInBounds_toArray, List.set_cons_zero, List.set_cons_succ]
  refine wpAnyH_takeL (i := 13) (v := .bool B) rfl (by kernel_rfl) (by kernel_rfl) (by kernel_rfl) (fun _ _ _ h => h) (Or.inl ⟨by rfl, fun w' hw' => by have y0 := hcls w' hw'; go_simp⟩) hSV ?_
  simp only [Act.put, List.setIfInBounds_toArray, List.set_cons_zero, List.set_cons_succ]
  refine wpAnyH_done (by kernel_rfl) ?_ _
  go_wp2
  go_ret2
  exact RS2.of HF.out.1 rfl HF.out.2 hS2 hzV hc2 hBf
set_option maxRecDepth 100000 in
set_option maxHeartbeats 2000000 in
theorem CancelEntry_impl (Al : Option Addr) (cl : Nat) (l : List Ent) (m n : Int) (w : World) (hll : l.length ≤ 1048576) (hml : ∀ x ∈ l, x.t.size ≤ 1048576) (hSl : Ents w 0 w.heap.size Al l) (hcl : l.length ≤ cl) (hS : Said w) : Calls Tryz.prog 13 #[.slice Al l.length cl, .int .i64 m, .int .i64 n] w (RS2 Ent.cells 4 w (canR l m n) (canOk l m n)) := by
  have hg := isLog_any Al cl l w (big hll) (bigs hml) hSl
  go_enter Tryz.func13, Tryz.ntmps13
  go_wp2_with fail
  refine hg.mono ?_
  rintro e w1 ⟨rfl, hb1⟩
  clear hg
  by_cases g1 : logB l = true
  rotate_left
  · have g1 : logB l = false := by simpa using g1
    rw [g1]
    have HN := Lib.hid (can_no (m := m) (show canPre l n = false by rw [canPre, g1]; rfl))
    go_wp2
    go_ret2
    exact RS2.nil_ HN.out.1 HN.out.2 hb1
  rw [g1]
  go_wp2_with fail
  refine (isLogMinute_any _ _).mono ?_
  rintro e w0 ⟨rfl, hb⟩
  have hb0 := Below.on' hb1 hb
  clear hb
  by_cases g0 : minB m = true
  rotate_left
  · have g0 : minB m = false := by simpa using g0
    rw [g0]
    have HN := Lib.hid (can_min (l := l) (n := n) g0)
    go_wp2
    go_ret2
    exact RS2.nil_ HN.out.1 HN.out.2 hb0
  rw [g0]
  go_wp2_with fail
  refine (inside_any _ _ _ _).mono ?_
  rintro e w2 ⟨rfl, hb⟩
  have hb2 := Below.on' hb0 hb
  clear hb
  by_cases g2 : inB n 1 l.length = true
  rotate_left
  · have g2 : inB n 1 l.length = false := by simpa using g2
    rw [g2]
    have HN := Lib.hid (can_no (m := m) (show canPre l n = false by rw [canPre, g2, Bool.and_false]; rfl))
    go_wp2
    go_ret2
    exact RS2.nil_ HN.out.1 HN.out.2 hb2
  obtain ⟨j, rfl⟩ : ∃ j : Nat, n = (j : Int) + 1 := ⟨(n - 1).toNat, by simp [inB] at g2; omega⟩
  have hjl : j < l.length := by simp [inB] at g2; omega
  rw [g2]
  go_wp2_with fail
  refine (liveEntries_any Al cl l _ hll hml (hSl.below hb2).all (hS.below hb2)).mono ?_
  rintro e w3 ⟨Ag, cg, rfl, hG, _, hb⟩
  have hb3 := Below.on' hb2 hb
  clear hb
  have hw1 : IntKind.i64.wrap ((j : Int) + 1 - 1) = (j : Int) := by rw [show (j : Int) + 1 - 1 = j by omega]; exact IntWalk.i64_in _ (by omega)
  have hRl : (liveR l).length ≤ 1048576 := Nat.le_trans (liveR_len l) hll
  have hcc : ∀ W lo hi, Ints W lo hi Ag (liveR l) → Calls Tryz.prog 60 #[.slice Ag (liveR l).length cg, .int .i64 j] W (RV W (.bool ((liveF l)[j]? == some true))) := fun W lo hi h => by
    rw [← live_mem]
    exact containsInts_any Ag cg (liveR l) j W lo hi hRl h
  go_wp2_with fail
  refine (hcc _ _ _ hG).mono ?_
  rintro e wq ⟨rfl, hb⟩
  have hBq := Below.on' hb3 hb
  have hSW := (hSl.below hBq).all
  have hTab : TabW wq := (hS.below hBq).tab
  clear hb hb0 hb1 hb2 hb3 hSl hcc hG
  have HY : Hid (canPre l ((j : Int) + 1) = ((liveF l)[j]? == some true)) := Lib.hid (by
    unfold canPre
    rw [g1, g2, show ((j : Int) + 1 - 1).toNat = j by omega]
    rfl)
  have hl0 : 0 < l.length := by omega
  have hl20 := logB_len g1
  clear hw1
  generalize ((liveF l)[j]? == some true) = y at HY
  cases y with
  | false =>
    clear g1 g2 g0
    have HN := Lib.hid (can_no (m := m) HY.out)
    go_wp2
    go_ret2
    exact RS2.nil_ HN.out.1 HN.out.2 hBq
  | true =>
  have HP : Hid (canPre l ((j : Int) + 1) = true) := Lib.hid HY.out
  clear HY g1 g2 g0
  obtain ⟨x, hx, hxm⟩ := get_lt hl0
  obtain ⟨b, off, rfl, _, _, _, hf⟩ := hSW.at_ hx
  have c0 : wq.cell? ⟨b, off, none⟩ = some (.int .i64 x.r) := by have := (hf 0 _ rfl).1; rw [Nat.zero_mul] at this; exact this
  have hhd : Hid (hdR l = x.r) := Lib.hid (by unfold hdR; rw [hx])
  have hsz := numT_size (j + 1)
  have hcn : ∀ W, Below wq.heap.size wq W → Calls Tryz.prog 62 #[.int .i64 ((j : Int) + 1)] W (RV W (.string (numT (j + 1)))) := fun W hW => (show ((j + 1 : Nat) : Int) = (j : Int) + 1 from rfl) ▸ itoa_any (j + 1) (by omega) W (hTab.below hW)
  have HT : Hid (canT (j + 1) = ⟨#[99, 97, 110, 99, 101, 108, 32]⟩ ++ numT (j + 1)) := Lib.hid rfl
  have hts : (canT (j + 1)).size ≤ 1048576 := by
    rw [HT.out, ByteArray.size_append]
    have h1 := numT_len' (n := j + 1) (k := 2) (by omega) (by omega)
    have h2 : (⟨#[99, 97, 110, 99, 101, 108, 32]⟩ : ByteArray).size = 7 := rfl
    omega
  have hs1 : 7 + (numT (j + 1)).size ≤ 9223372036854775807 := by omega
  rw [HT.out] at hts
  generalize numT (j + 1) = T at hcn HT hts hs1
  have HF : Hid (canR l m ((j : Int) + 1) = lgAppR l x.r m (⟨#[99, 97, 110, 99, 101, 108, 32]⟩ ++ T) ∧ canOk l m ((j : Int) + 1) = logB (appL l x.r m (⟨#[99, 97, 110, 99, 101, 108, 32]⟩ ++ T))) := Lib.hid (by
    have h1 := can_yes (m := m) HP.out
    rw [h1.1, h1.2, hhd.out, show ((j : Int) + 1).toNat = j + 1 by omega, HT.out]
    exact ⟨rfl, rfl⟩)
  obtain ⟨TT, hTT⟩ : ∃ TT : ByteArray, TT = ⟨#[99, 97, 110, 99, 101, 108, 32]⟩ ++ T := ⟨_, rfl⟩
  have hca : ∀ W, Ents W 0 W.heap.size (some ⟨b, off, none⟩) l → Calls Tryz.prog 54 #[.slice (some ⟨b, off, none⟩) l.length cl, .int .i64 x.r, .int .i64 m, .string TT] W (RS2 Ent.cells 4 W (lgAppR l x.r m TT) (logB (appL l x.r m TT))) := fun W hW => appendEntry_any (some ⟨b, off, none⟩) cl l x.r m TT W hll hml hW hcl (by rw [hTT]; exact hts)
  rw [← hTT] at HF
  generalize lgAppR l x.r m TT = R at HF hca
  generalize logB (appL l x.r m TT) = B at HF hca
  rw [hTT] at hca
  clear hx hxm hf hTT HP HT hhd
  go_upto_region 3 with fail
  refine wp_region_held_drew (S := fun w' => Below wq.drew.heap.size wq.drew w') (by kernel_rfl) (Below.refl _ _) (fun _ => ?_)
  have hB0 : Below w.heap.size w wq.drew := hBq.drew
  have hcls : ∀ w', Below wq.drew.heap.size wq.drew w' → w'.cell? ⟨b, off, none⟩ = some (.int .i64 x.r) := fun w' h => keep h c0
  have hcn' : ∀ W, Below wq.drew.heap.size wq.drew W → Calls Tryz.prog 62 #[.int .i64 ((j : Int) + 1)] W (RV W (.string T)) := fun W hW => hcn W ⟨hW.os, hW.tape, hW.output, hW.size, hW.block⟩
  have hSD : ∀ W, Below wq.drew.heap.size wq.drew W → Ents W 0 W.heap.size (some ⟨b, off, none⟩) l := fun W hW => ((hSW.drew).below hW).all
  clear hcn c0 hBq
  generalize wq.drew = W0 at hB0 hcls hcn' hSD ⊢
  change wpAnyH _ _ _ _ _ 14 #[false, false, false, false, false, false, false, false, false, false, false, false, false, false] _ _
  refine wpAnyH_takeL (i := 0) (v := .slice (some ⟨b, off, none⟩) l.length cl) rfl (by kernel_rfl) (by kernel_rfl) (by kernel_rfl) (fun _ _ _ h => h) (Or.inl ⟨by rfl, fun w' hw' => by have y0 := hcls w' hw'; go_simp⟩) (Below.refl _ _) ?_
  simp only [Act.put, List.setIfInBounds_toArray, List.set_cons_zero, List.set_cons_succ]
  refine wpAnyH_takeL (i := 1) (v := .slice (some ⟨b, off, none⟩) l.length cl) rfl (by kernel_rfl) (by kernel_rfl) (by kernel_rfl) (fun _ _ _ h => h) (Or.inl ⟨by rfl, fun w' hw' => by have y0 := hcls w' hw'; go_simp⟩) (Below.refl _ _) ?_
  simp only [Act.put, List.setIfInBounds_toArray, List.set_cons_zero, List.set_cons_succ]
  refine wpAnyH_takeL (i := 2) (v := .pointer (some ⟨b, off, none⟩)) rfl (by kernel_rfl) (by kernel_rfl) (by kernel_rfl) (fun _ _ _ h => h) (Or.inl ⟨by rfl, fun w' hw' => by have y0 := hcls w' hw'; go_simp⟩) (Below.refl _ _) ?_
  simp only [Act.put, List.setIfInBounds_toArray, List.set_cons_zero, List.set_cons_succ]
  refine wpAnyH_takeL (i := 3) (v := .pointer (some ⟨b, off, none⟩)) rfl (by kernel_rfl) (by kernel_rfl) (by kernel_rfl) (fun _ _ _ h => h) (Or.inl ⟨by rfl, fun w' hw' => by have y0 := hcls w' hw'; go_simp⟩) (Below.refl _ _) ?_
  simp only [Act.put, List.setIfInBounds_toArray, List.set_cons_zero, List.set_cons_succ]
  refine wpAnyH_takeL (i := 4) (v := .int .i64 x.r) rfl (by kernel_rfl) (by kernel_rfl) (by kernel_rfl) (fun _ _ _ h => h) (Or.inl ⟨by rfl, fun w' hw' => by have y0 := hcls w' hw'; go_simp⟩) (Below.refl _ _) ?_
  simp only [Act.put, List.setIfInBounds_toArray, List.set_cons_zero, List.set_cons_succ]
  refine wpAnyH_takeL (i := 5) (v := .int .i64 m) rfl (by kernel_rfl) (by kernel_rfl) (by kernel_rfl) (fun _ _ _ h => h) (Or.inl ⟨by rfl, fun w' hw' => by have y0 := hcls w' hw'; go_simp⟩) (Below.refl _ _) ?_
  simp only [Act.put, List.setIfInBounds_toArray, List.set_cons_zero, List.set_cons_succ]
  refine wpAnyH_takeL (i := 6) (v := .int .i64 ((j : Int) + 1)) rfl (by kernel_rfl) (by kernel_rfl) (by kernel_rfl) (fun _ _ _ h => h) (Or.inl ⟨by rfl, fun w' hw' => by have y0 := hcls w' hw'; go_simp⟩) (Below.refl _ _) ?_
  simp only [Act.put, List.setIfInBounds_toArray, List.set_cons_zero, List.set_cons_succ]
  refine wpAnyH_ready (rs := [7]) (by kernel_rfl) (by simp) ?_
  refine AllReadyH.consL rfl (fun K hK => ?_) AllReadyH.nil
  go_simp
  go_at_call 62
  refine (hcn' W0 (Below.refl _ _)).mono ?_
  rintro e V ⟨rfl, hb⟩
  go_simp
  refine hK.out _ _ hb (fun _ => ?_)
  clear hK K
  simp only [List.setIfInBounds_toArray, List.set_cons_zero, List.set_cons_succ]
  refine wpAnyH_takeL (i := 8) (v := .string (⟨#[99, 97, 110, 99, 101, 108, 32]⟩ ++ T)) rfl (by kernel_rfl) (by kernel_rfl) (by kernel_rfl) (fun _ _ _ h => h) (Or.inl ⟨by rfl, fun w' hw' => by have y0 := hcls w' hw'; go_simp⟩) hb ?_
  simp only [Act.put, List.setIfInBounds_toArray, List.set_cons_zero, List.set_cons_succ]
  refine wpAnyH_ready (rs := [9]) (by kernel_rfl) (by simp) ?_
  refine AllReadyH.consL rfl (fun K hK => ?_) AllReadyH.nil
  go_simp
  go_at_call 54
  refine (hca V (hSD V hb)).mono ?_
  rintro e V2 ⟨A2, c2, rfl, hS2, hc2, hb2⟩
  go_simp
  have hSV : Below W0.heap.size W0 V2 := hb.trans (hb2.mono hb.size)
  refine hK.out _ _ hSV (fun _ => ?_)
  clear hK K
  simp only [List.setIfInBounds_toArray, List.set_cons_zero, List.set_cons_succ]
  have hBf : Below w.heap.size w V2 := Below.on' (Below.on' hB0 hb) hb2
  have hzV : w.heap.size ≤ V.heap.size := (Below.on' hB0 hb).size
  clear hts hs1 hSD hcn' hca
  refine wpAnyH_takeL (i := 10) (v := .slice A2 R.length c2) rfl (by kernel_rfl) (by kernel_rfl) (by kernel_rfl) (fun _ _ _ h => h) (Or.inl ⟨by rfl, fun w' hw' => by have y0 := hcls w' hw'; go_simp⟩) hSV ?_
  simp only [Act.put, List.setIfInBounds_toArray, List.set_cons_zero, List.set_cons_succ]
  refine wpAnyH_takeL (i := 11) (v := .bool B) rfl (by kernel_rfl) (by kernel_rfl) (by kernel_rfl) (fun _ _ _ h => h) (Or.inl ⟨by rfl, fun w' hw' => by have y0 := hcls w' hw'; go_simp⟩) hSV ?_
  simp only [Act.put, List.setIfInBounds_toArray, List.set_cons_zero, List.set_cons_succ]
  refine wpAnyH_takeL (i := 12) (v := .slice A2 R.length c2) rfl (by kernel_rfl) (by kernel_rfl) (by kernel_rfl) (fun _ _ _ h => h) (Or.inl ⟨by rfl, fun w' hw' => by have y0 := hcls w' hw'; go_simp⟩) hSV ?_
  simp only [Act.put, List.setIfInBounds_toArray, List.set_cons_zero, List.set_cons_succ]
  refine wpAnyH_takeL (i := 13) (v := .bool B) rfl (by kernel_rfl) (by kernel_rfl) (by kernel_rfl) (fun _ _ _ h => h) (Or.inl ⟨by rfl, fun w' hw' => by have y0 := hcls w' hw'; go_simp⟩) hSV ?_
  simp only [Act.put, List.setIfInBounds_toArray, List.set_cons_zero, List.set_cons_succ]
  refine wpAnyH_done (by kernel_rfl) ?_ _
  go_wp2
  go_ret2
  exact RS2.of HF.out.1 rfl HF.out.2 hS2 hzV hc2 hBf
end Go.Proofs.YtmdmcjhodhphgaaGreatDoor

/- Drawing copies of logs and histories: what it returns, and that only the cursor changes. Conditions: a valid cursor, fewer than 2^39 steps. -/
import Derived.Test.YtmdmcjhodhphgaaGreatDrwG
import Derived.Test.YtmdmcjhodhphgaaGreatByt
import Derived.Test.YtmdmcjhodhphgaaGreatReg
import Derived.Test.YtmdmcjhodhphgaaGreatSpl
namespace Go.Proofs.YtmdmcjhodhphgaaGreat
open Go.RowKit

theorem Sl.tail1 {α : Type} {E : α → List Value} {k : Nat} {w : World} {lo hi b off : Nat} {x : α} {l : List α} (h : Sl E k w lo hi (some ⟨b, off, none⟩) (x :: l)) : Sl E k w lo hi (some ⟨b, off + k, none⟩) l := fun _ => by
  obtain ⟨b', off', e, h1, h2, h3, f⟩ := h (by simp)
  injection e with e
  injection e with e1 e2
  subst e1 e2
  refine ⟨b, off + k, rfl, h1, h2, h3, fun i y hy j v hv => ?_⟩
  have := f (i + 1) y (by simpa using hy) j v hv
  rw [show off + (i + 1) * k + j = off + k + i * k + j by rw [Nat.add_mul]; omega] at this
  exact this
/-- A drawn list in the blocks from b on. -/
def EL (b : Nat) (W : World) (B : Option Addr) (d : Nat) (L : List Ent) : Prop := (L.length ≤ 60 ∧ L.length ≤ d) ∧ (∀ y ∈ L, y.t.size ≤ 41) ∧ Ents W b W.heap.size B L
theorem EL.below {b : Nat} {W w' : World} {B : Option Addr} {d : Nat} {L : List Ent} (h : EL b W B d L) (hb : Below W.heap.size W w') : EL b w' B d L := ⟨h.1, h.2.1, (h.2.2.below hb).mono (Nat.le_refl _) hb.size (Nat.le_refl _)⟩
theorem EL.cur {pb : Nat} {W w' : World} {B : Option Addr} {d : Nat} {L : List Ent} (h : EL (pb + 1) W B d L) (hF : Fr pb (pb + 1) W w') : EL (pb + 1) w' B d L := by
  have h3 : Ents w' (pb + 1) W.heap.size B L := h.2.2.fr hF (Or.inr (Nat.le_refl _))
  exact ⟨h.1, h.2.1, h3.mono (Nat.le_refl _) hF.size (Nat.le_refl _)⟩
theorem EL.lift {b b0 : Nat} {W : World} {B : Option Addr} {d : Nat} {L : List Ent} (h : EL b W B d L) (hb : b0 ≤ b) : EL b0 W B d L := ⟨h.1, h.2.1, h.2.2.mono hb (Nat.le_refl _) (Nat.le_refl _)⟩
theorem EL.of {b base d : Nat} {W : World} {B : Option Addr} {L : List Ent} (h1 : L.length ≤ 60) (h2 : ∀ y ∈ L, y.t.size ≤ 41) (hO : Own Ent.cells 4 38 W base B d L) (hb : b ≤ base) : EL b W B d L := ⟨⟨h1, hO.cap⟩, h2, (hO.lift hb).sl Ent.len⟩
theorem log_in {L : List Ent} (h : logB L = true) : L.length ≤ 60 := by have := logB_len h; omega
set_option maxRecDepth 10000 in
set_option maxHeartbeats 8000000 in
theorem copyOf_any (pb : Nat) (A : Option Addr) (c : Nat) (l : List Int) (N : Nat) (B : Option Addr) (d : Nat) (L : List Ent) (lo hi : Nat) (w : World) (hC : Cur pb A c l N w) (hN : N ≤ 600000000000) (hL : L.length ≤ 21) (hm : ∀ y ∈ L, y.t.size ≤ 41) (hcd : L.length ≤ d) (hS : Ents w lo hi B L) (hd : hi ≤ pb ∨ pb < lo) (hh : hi ≤ w.heap.size) :
    Calls Tryz.prog 27 #[.pointer (some ⟨pb, 0, none⟩), .slice B L.length d] w (fun e w' => ∃ (B' : Option Addr) (d' : Nat) (L' : List Ent), e = .returned (.slice B' L'.length d') ∧ L'.length ≤ 21 ∧ (∀ y ∈ L', y.t.size ≤ 41) ∧ Own Ent.cells 4 38 w' w.heap.size B' d' L' ∧ Cur pb A c l (N + 440) w' ∧ Fr pb (pb + 1) w w') := by
  obtain ⟨i0, hi0, hv0, hv1, hv2⟩ := info_parts Ent.info
  have hpb := hC.lt
  have hL' : L.length ≤ 1048576 := by omega
  have hm' : ∀ x ∈ L, x.t.size ≤ 1048576 := fun x hx => by have := hm x hx; omega
  go_enter Tryz.func27, Tryz.ntmps27
  go_wp2_with fail
  refine (lgGood_any B d L _ (big hL') (bigs hm') hS.all).mono ?_
  rintro e w0 ⟨rfl, hb⟩
  have hS0 := hS.below hb
  have hC0 := hC.below hb
  have hF0 : Fr pb (pb + 1) w w0 := (Fr.refl _ _ _).on hb
  have hz0 := hb.size
  clear hb hC hS
  by_cases g : logB L = true
  rotate_left
  · have g : logB L = false := by simpa using g
    rw [g]
    clear hi0 hv0 hv1 hv2
    go_wp2_with fail
    refine (anyLog_any pb A c l N _ hC0 (by omega)).mono ?_
    rintro e w1 ⟨B', d', L', rfl, hl2, hm2, hO, hC1, hFn⟩
    go_wp2
    go_ret
    exact ⟨B', d', L', rfl, hl2, hm2, hO.lift (by omega), hC1.more (by omega), hF0.trans hFn⟩
  rw [g]
  go_wp2_with fail
  refine (one_any pb A c l N 6 _ hC0 (by omega) (by omega)).mono ?_
  rintro e w1 ⟨_, rfl, ⟨b, rfl⟩, hC1, hFn⟩
  have hS1 : Ents w1 lo hi B L := hS0.fr hFn (by omega)
  have hF1 := hF0.trans hFn
  have hz1 := hFn.size
  clear hFn hC0 hF0 hS0
  cases b with
  | true =>
    clear hi0 hv0 hv1 hv2
    go_wp2_with fail
    refine (anyLog_any pb A c l (N + 2) _ hC1 (by omega)).mono ?_
    rintro e w2 ⟨B', d', L', rfl, hl2, hm2, hO, hC2, hFn⟩
    go_wp2
    go_ret
    exact ⟨B', d', L', rfl, hl2, hm2, hO.lift (by omega), hC2.more (by omega), hF1.trans hFn⟩
  | false =>
    have hCb := hC1.alloc (.cells #[] 38)
    have hF1b := hF1.alloc (.cells #[] 38)
    have hS1b : Ents (w1.alloc (.cells #[] 38)) lo hi B L := hS1.alloc _
    have hOe := Own.empty (E := Ent.cells) (k := 4) (T := 38) w1 (base := w.heap.size) (by omega)
    have hzb : (w1.alloc (.cells #[] 38)).heap.size = w1.heap.size + 1 := by simp
    clear hC1 hF1 hS1
    go_wp2_with fail
    refine (pick_any pb A c l (N + 2) _ _ hCb (by omega) (by omega)).mono ?_
    rintro e w2 ⟨_, rfl, ⟨k, rfl, hk⟩, hC2, hFn⟩
    have hS2 : Ents w2 lo hi B L := hS1b.fr hFn (by omega)
    have hO2 := hOe.frm hFn (by omega)
    have hF2 := hF1b.trans hFn
    have hz2 := hFn.size
    have hkL : k ≤ L.length := by omega
    have hk0 : (0 : Int) ≤ k := by omega
    have hkd : (k : Int) ≤ d := by omega
    have hkL' : (k : Int) ≤ L.length := by omega
    clear hFn hCb hF1b hS1b hOe hk
    have hlk : Hid ((L.take k).length = k) := Lib.hid (by simp; omega)
    go_wp2_with (at_builtin; refine wpList_append_all _ rfl (.tmp 17) (.tmp 24) _ rfl i0 _ _ Tryz.underlying24 hi0 hv0 hv1 hv2 rfl (by omega) Ent.len Ent.one hO2 (hS2.take k) rfl (by rw [hlk.out]; rfl) (by rw [hlk.out]; unfold maxLen; simp; omega) (by rw [hlk.out]; simp; omega) (by omega) ?_; intro A' c' w3 L2 hL2 hO hB)
    replace hL2 : Hid (L2 = L.take k) := hL2
    have hl2 : L2.length ≤ 21 := by rw [hL2.out, hlk.out]; omega
    have hm2 : ∀ y ∈ L2, y.t.size ≤ 41 := by rw [hL2.out]; exact fun y hy => hm y (List.mem_of_mem_take hy)
    have hC3 := hC2.upto (by omega) hB
    have hF3 := hF2.more hB (by omega)
    have hS3 : Ents w3 lo hi B L := hS2.keep (fun b _ h2 => hB.block b (by omega)) hB.size
    have hz3 := hB.size
    clear hB hC2 hF2 hO2 hlk hL2 hi0 hv0 hv1 hv2
    go_wp2_with fail
    refine (one_any pb A c l (N + 4) 5 _ hC3 (by omega) (by omega)).mono ?_
    rintro e w4 ⟨_, rfl, ⟨b2, rfl⟩, hC4, hFn⟩
    have hS4 : Ents w4 lo hi B L := hS3.fr hFn (by omega)
    have hO4 := hO.frm hFn (by omega)
    have hF4 := hF3.trans hFn
    have hz4 := hFn.size
    clear hFn hC3 hF3 hS3 hO
    cases b2 with
    | false =>
      go_wp2
      go_ret
      exact ⟨A', c', L2, rfl, hl2, hm2, hO4.lift (by omega), hC4.more (by omega), hF4⟩
    | true =>
      by_cases h0 : 0 < L.length
      · have h0' : (0 : Int) < L.length := by omega
        obtain ⟨x, hx, _⟩ := get_lt h0
        obtain ⟨yb, yo, rfl, y1, y2, y3, hf⟩ := hS4.at_ hx
        have d0 : w4.cell? ⟨yb, yo, none⟩ = some (.int .i64 x.r) := by have := (hf 0 _ rfl).1; simpa using this
        clear hf hx
        go_upto_region 5 with fail
        refine wp_region_held_drew (S := fun w' => w'.cell? ⟨yb, yo, none⟩ = some (.int .i64 x.r)) (by kernel_rfl) d0 (fun hHeld => ?_)
        have hF5 : Fr pb (pb + 1) w w4.drew := ⟨hF4.os, hF4.tape, hF4.output, hF4.size, hF4.block⟩
        have hC5 := hC4.drew
        have hO5 := hO4.drew
        have hz5 : w4.heap.size ≤ w4.drew.heap.size := Nat.le_refl _
        have hy : yb < w4.drew.heap.size := by show yb < w4.heap.size; omega
        clear hF4 hC4 hO4 hS4 d0
        generalize w4.drew = W at hHeld hF5 hC5 hO5 hz5 hy ⊢
        change wpAnyH _ _ _ _ _ 13 #[false, false, false, false, false, false, false, false, false, false, false, false, false] _ _
        refine wpAnyH_takeL (i := 0) (v := .slice A' L2.length c') rfl (by kernel_rfl) (by kernel_rfl) (by kernel_rfl) (fun _ _ _ h => h) (Or.inl ⟨by rfl, fun w' hSw => by have z0 := hSw; go_simp⟩) (by assumption) ?_
        simp only [Act.put, List.setIfInBounds_toArray, List.set_cons_zero, List.set_cons_succ]
        refine wpAnyH_takeL (i := 1) (v := .slice (some ⟨yb, yo, none⟩) L.length d) rfl (by kernel_rfl) (by kernel_rfl) (by kernel_rfl) (fun _ _ _ h => h) (Or.inl ⟨by rfl, fun w' hSw => by have z0 := hSw; go_simp⟩) (by assumption) ?_
        simp only [Act.put, List.setIfInBounds_toArray, List.set_cons_zero, List.set_cons_succ]
        refine wpAnyH_takeL (i := 2) (v := .pointer (some ⟨yb, yo, none⟩)) rfl (by kernel_rfl) (by kernel_rfl) (by kernel_rfl) (fun _ _ _ h => h) (Or.inl ⟨by rfl, fun w' hSw => by have z0 := hSw; go_simp⟩) (by assumption) ?_
        simp only [Act.put, List.setIfInBounds_toArray, List.set_cons_zero, List.set_cons_succ]
        refine wpAnyH_takeL (i := 3) (v := .pointer (some ⟨yb, yo, none⟩)) rfl (by kernel_rfl) (by kernel_rfl) (by kernel_rfl) (fun _ _ _ h => h) (Or.inl ⟨by rfl, fun w' hSw => by have z0 := hSw; go_simp⟩) (by assumption) ?_
        simp only [Act.put, List.setIfInBounds_toArray, List.set_cons_zero, List.set_cons_succ]
        refine wpAnyH_takeL (i := 4) (v := .int .i64 x.r) rfl (by kernel_rfl) (by kernel_rfl) (by kernel_rfl) (fun _ _ _ h => h) (Or.inl ⟨by rfl, fun w' hSw => by have z0 := hSw; go_simp⟩) (by assumption) ?_
        simp only [Act.put, List.setIfInBounds_toArray, List.set_cons_zero, List.set_cons_succ]
        refine wpAnyH_takeL (i := 5) (v := .pointer (some ⟨pb, 0, none⟩)) rfl (by kernel_rfl) (by kernel_rfl) (by kernel_rfl) (fun _ _ _ h => h) (Or.inl ⟨by rfl, fun w' hSw => by have z0 := hSw; go_simp⟩) (by assumption) ?_
        simp only [Act.put, List.setIfInBounds_toArray, List.set_cons_zero, List.set_cons_succ]
        refine wpAnyH_ready (rs := [6]) (by kernel_rfl) (by simp) ?_
        refine AllReadyH.consL rfl (fun K hK => ?_) AllReadyH.nil
        go_simp
        refine (entryWords_any pb A c l (N + 6) _ hC5 (by omega)).mono ?_
        rintro e V ⟨s, hs, rfl, hC6, hFn⟩
        go_simp
        refine hK.out _ _ ((World.cell?_of_block (a := ⟨yb, yo, none⟩) (hFn.block yb hy (by omega))).trans hHeld) (fun hHeld2 => ?_)
        clear hK K
        simp only [List.setIfInBounds_toArray, List.set_cons_zero, List.set_cons_succ]
        have hO6 := hO5.frm hFn (by omega)
        have hF6 := hF5.trans hFn
        have hz6 := hFn.size
        have hy2 : yb < V.heap.size := by omega
        clear hFn hC5 hF5 hO5 hHeld
        refine wpAnyH_ready (rs := [7]) (by kernel_rfl) (by simp) ?_
        refine AllReadyH.consL rfl (fun K hK => ?_) AllReadyH.nil
        go_simp
        refine (lgAppend_own A' c' L2 x.r 50 s V (by omega) (fun q hq => by have := hm2 q hq; omega) (hO6.sl Ent.len).all hO6.cap (by omega)).mono ?_
        rintro e U ⟨B3, d3, rfl, hO3, hb⟩
        go_simp
        refine hK.out _ _ (keep hb hHeld2) (fun hHeld3 => ?_)
        clear hK K
        simp only [List.setIfInBounds_toArray, List.set_cons_zero, List.set_cons_succ]
        have hO7 := hO6.below hb
        have hC7 := hC6.below hb
        have hF7 := hF6.more hb (by omega)
        replace hO3 := hO3.lift (b0 := w.heap.size) (by omega)
        clear hb hO6 hC6 hF6 hHeld2
        obtain ⟨L3, hL3⟩ : ∃ L3, Hid (L3 = lgAppR L2 x.r 50 s) := ⟨_, Lib.hid rfl⟩
        rw [← hL3.out] at hO3 ⊢
        obtain ⟨q, hq⟩ : ∃ q, Hid (q = logB (appL L2 x.r 50 s)) := ⟨_, Lib.hid rfl⟩
        rw [← hq.out]
        refine wpAnyH_takeL (i := 8) (v := .tuple #[.slice B3 L3.length d3, .bool q]) rfl (by kernel_rfl) (by kernel_rfl) (by kernel_rfl) (fun _ _ _ h => h) (Or.inl ⟨by rfl, fun w' hSw => by have z0 := hSw; go_simp⟩) (by assumption) ?_
        simp only [Act.put, List.setIfInBounds_toArray, List.set_cons_zero, List.set_cons_succ]
        refine wpAnyH_takeL (i := 9) (v := .slice B3 L3.length d3) rfl (by kernel_rfl) (by kernel_rfl) (by kernel_rfl) (fun _ _ _ h => h) (Or.inl ⟨by rfl, fun w' hSw => by have z0 := hSw; go_simp⟩) (by assumption) ?_
        simp only [Act.put, List.setIfInBounds_toArray, List.set_cons_zero, List.set_cons_succ]
        refine wpAnyH_takeL (i := 10) (v := .bool q) rfl (by kernel_rfl) (by kernel_rfl) (by kernel_rfl) (fun _ _ _ h => h) (Or.inl ⟨by rfl, fun w' hSw => by have z0 := hSw; go_simp⟩) (by assumption) ?_
        simp only [Act.put, List.setIfInBounds_toArray, List.set_cons_zero, List.set_cons_succ]
        refine wpAnyH_takeL (i := 11) (v := .slice B3 L3.length d3) rfl (by kernel_rfl) (by kernel_rfl) (by kernel_rfl) (fun _ _ _ h => h) (Or.inl ⟨by rfl, fun w' hSw => by have z0 := hSw; go_simp⟩) (by assumption) ?_
        simp only [Act.put, List.setIfInBounds_toArray, List.set_cons_zero, List.set_cons_succ]
        refine wpAnyH_takeL (i := 12) (v := .bool q) rfl (by kernel_rfl) (by kernel_rfl) (by kernel_rfl) (fun _ _ _ h => h) (Or.inl ⟨by rfl, fun w' hSw => by have z0 := hSw; go_simp⟩) (by assumption) ?_
        simp only [Act.put, List.setIfInBounds_toArray, List.set_cons_zero, List.set_cons_succ]
        refine wpAnyH_done (by kernel_rfl) ?_ _
        clear hHeld3
        cases q with
        | false =>
          go_wp2
          go_ret
          exact ⟨A', c', L2, rfl, hl2, hm2, hO7.lift (by omega), hC7.more (by omega), hF7⟩
        | true =>
          have hL4 : logB L3 = true := by rw [hL3.out, lgAppR, if_pos hq.out.symm]; exact hq.out.symm
          have hl3 := logB_len hL4
          have hm3 := log_small hL4
          clear hL3 hq hL4
          go_wp2
          go_ret
          exact ⟨B3, d3, L3, rfl, by omega, hm3, hO3, hC7.more (by omega), hF7⟩
      · have h0' : ¬ (0 : Int) < L.length := by omega
        go_wp2
        go_ret
        exact ⟨A', c', L2, rfl, hl2, hm2, hO4.lift (by omega), hC4.more (by omega), hF4⟩
set_option maxRecDepth 10000 in
set_option maxHeartbeats 8000000 in
theorem history_any (pb : Nat) (A : Option Addr) (c : Nat) (l : List Int) (N : Nat) (w : World) (hC : Cur pb A c l N w) (hN : N ≤ 600000000000) :
    Calls Tryz.prog 41 #[.pointer (some ⟨pb, 0, none⟩)] w (fun e w' => ∃ (B : Option Addr) (d : Nat) (L : List Ent), e = .returned (.slice B L.length d) ∧ EL w.heap.size w' B d L ∧ Cur pb A c l (N + 640) w' ∧ Fr pb (pb + 1) w w') := by
  obtain ⟨i0, hi0, hv0, hv1, hv2⟩ := info_parts Ent.info
  have hpb := hC.lt
  go_enter Tryz.func41, Tryz.ntmps41
  go_wp2_with fail
  refine (log_any pb A c l N 1 _ hC (by omega)).mono ?_
  rintro e w1 ⟨B1, d1, L1, rfl, hlog1, hO1, hC1, hF1⟩
  have hz1 := hF1.size
  clear hC
  go_wp2_with fail
  refine (log_any pb A c l (N + 300) 2 _ hC1 (by omega)).mono ?_
  rintro e w2 ⟨B2, d2, L2, rfl, hlog2, hO2, hC2, hFn⟩
  replace hO1 := hO1.frm hFn (by omega)
  have hF2 := hF1.trans hFn
  have hz2 := hFn.size
  have hl1 := logB_len hlog1
  have hl2 := logB_len hlog2
  clear hFn hC1 hF1
  go_wp2_with fail
  refine (mgHistory_any B1 B2 d1 d2 L1 L2 _ (by omega) (by omega) (hO1.sl Ent.len).all (hO2.sl Ent.len).all).mono ?_
  rintro e w3 ⟨B, d, rfl, hO, hb⟩
  have hC3 := hC2.below hb
  have hF3 := hF2.more hb (by omega)
  have hz3 := hb.size
  replace hO := hO.lift (b0 := w.heap.size) (by omega)
  have hL : (mrg L1 L2).length ≤ 40 := by rw [mrg_len _ L1 L2 (Nat.le_refl _)]; omega
  have hm : ∀ y ∈ mrg L1 L2, y.t.size ≤ 41 := fun y hy => by
    rcases (mrg_mem _ L1 L2 (Nat.le_refl _)).1 hy with h | h
    · exact log_small hlog1 y h
    · exact log_small hlog2 y h
  generalize mrg L1 L2 = L at hO hL hm ⊢
  clear hb hC2 hF2 hO1 hO2 hlog1 hlog2 hl1 hl2
  go_wp2_with fail
  refine (pick_any pb A c l (N + 600) 24 _ hC3 (by omega) (by omega)).mono ?_
  rintro e w4 ⟨_, rfl, ⟨k, rfl, _⟩, hC4, hFn⟩
  replace hO := hO.frm hFn (by omega)
  have hF4 := hF3.trans hFn
  have hz4 := hFn.size
  clear hFn hC3 hF3
  by_cases e0 : k = 0
  · have q0 : ((k : Int) == 0) = true := by simp [e0]
    clear e0
    go_wp2_with fail
    refine (among_lit pb A c l (N + 602) [1, 2, 3] 3 rfl _ _ _ _ (by simp) rfl hC4 (by omega) (by simp) (by simp)).mono ?_
    rintro e w5 ⟨v1, _, rfl, hC5, hFn⟩
    replace hO := hO.frm hFn (by omega)
    have hF5 := hF4.trans hFn
    have hz5 := hFn.size
    clear hFn hC4 hF4
    go_wp2_with fail
    refine (among_lit pb A c l (N + 604) [1, 5] 2 rfl _ _ _ _ (by simp) rfl hC5 (by omega) (by simp) (by simp)).mono ?_
    rintro e w6 ⟨v2, _, rfl, hC6, hFn⟩
    replace hO := hO.frm hFn (by omega)
    have hF6 := hF5.trans hFn
    have hz6 := hFn.size
    clear hFn hC5 hF5
    go_wp2_with fail
    refine (pick_any pb A c l (N + 606) 30 _ hC6 (by omega) (by omega)).mono ?_
    rintro e w7 ⟨_, rfl, ⟨v3, rfl, _⟩, hC7, hFn⟩
    replace hO := hO.frm hFn (by omega)
    have hF7 := hF6.trans hFn
    have hz7 := hFn.size
    clear hFn hC6 hF6
    go_wp2_with (at_builtin; refine wpList_append_one _ rfl (.tmp 13) (.tmp 23) _ rfl i0 _ _ Tryz.underlying24 hi0 hv0 hv1 hv2 rfl (by omega) Ent.len Ent.one (⟨v1, v2, v3, ⟨#[120]⟩⟩ : Ent) _ (hO.alloc _) rfl rfl (new_cells_at _ _ _ _ _ (by simp) rfl) (by unfold maxLen; first | omega | (simp; omega)) (by first | omega | (simp; omega)) (by simp; omega) ?_; intro B' d' V L' hL' hO' hbV)
    have hbx : Below w.heap.size w7 V := ((Below.refl w.heap.size w7).alloc (by omega) _).trans hbV
    have hl2 : L'.length ≤ 60 := by rw [hL'.out, List.length_append]; simp; omega
    have hm2 : ∀ y ∈ L', y.t.size ≤ 41 := by rw [hL'.out]; exact entry_snoc hm (by show (⟨#[120]⟩ : ByteArray).size ≤ 41; decide)
    have hC8 := hC7.upto (by omega) hbx
    have hF8 := hF7.more hbx (by omega)
    clear hbx hbV hC7 hF7 hm hL' hi0 hv0 hv1 hv2 hO
    go_wp2
    go_ret
    exact ⟨B', d', L', rfl, EL.of hl2 hm2 hO' (Nat.le_refl _), hC8.more (by omega), hF8⟩
  have q0 : ((k : Int) == 0) = false := by simp; omega
  clear hi0 hv0 hv1 hv2
  by_cases e1 : k = 1
  · have q1 : ((k : Int) == 1) = true := by simp [e1]
    clear e0 e1
    by_cases h1 : 1 < L.length
    · have h1' : (1 : Int) < L.length := by omega
      obtain ⟨x, L5, rfl⟩ : ∃ x L5, L = x :: L5 := by
        cases L with
        | nil => simp at h1
        | cons x L5 => exact ⟨x, L5, rfl⟩
      have hE : EL w.heap.size w4 B d (x :: L5) := EL.of (by omega) hm hO (Nat.le_refl _)
      have hcap := hE.1.2
      obtain ⟨yb, yo, rfl, _, _, _, _⟩ := hE.2.2.at_ (i := 0) (x := x) rfl
      simp only [List.length_cons] at h1 h1' hcap hL
      clear hO
      have h3 : (1 : Int) ≤ d := by omega
      have h4 : ¬ d = 1 := by omega
      go_wp2
      go_ret
      refine ⟨some ⟨yb, yo + 4, none⟩, d - 1, L5, ?_, ⟨⟨by omega, by omega⟩, fun y hy => hm y (List.mem_cons_of_mem _ hy), hE.2.2.tail1⟩, hC4.more (by omega), hF4⟩
      rfl
    · have h1' : ¬ (1 : Int) < L.length := by omega
      go_wp2
      go_ret
      exact ⟨B, d, L, rfl, EL.of (by omega) hm hO (Nat.le_refl _), hC4.more (by omega), hF4⟩
  have q1 : ((k : Int) == 1) = false := by simp; omega
  clear e0 e1
  go_wp2
  go_ret
  exact ⟨B, d, L, rfl, EL.of (by omega) hm hO (Nat.le_refl _), hC4.more (by omega), hF4⟩
set_option maxRecDepth 10000 in
set_option maxHeartbeats 4000000 in
theorem DrawJoinCopies_any (A : Option Addr) (c : Nat) (l : List Int) (w : World) (hl : l.length ≤ maxLen) (hm : ∀ x ∈ l, 0 ≤ x ∧ x ≤ 255) (hS : Sl byE 1 w 0 w.heap.size A l) :
    Calls Tryz.prog 5 #[.slice A l.length c] w fun e w' => ∃ (B1 : Option Addr) (d1 : Nat) (L1 : List Ent) (B2 : Option Addr) (d2 : Nat) (L2 : List Ent), e = .returned (.tuple #[.slice B1 L1.length d1, .slice B2 L2.length d2]) ∧ EL w.heap.size w' B1 d1 L1 ∧ EL w.heap.size w' B2 d2 L2 ∧ Below w.heap.size w w' := by
  have hC0 := Cur.new w A c l 48 w.heap.size rfl hS hm hl
  have hz : w.heap.size + 1 ≤ (w.alloc (.cells #[.slice A l.length c, .int .i64 0, .int .u64 0] 48)).heap.size := by simp
  have hB : Below w.heap.size w (w.alloc (.cells #[.slice A l.length c, .int .i64 0, .int .u64 0] 48)) := by go_grown
  clear hS hl hm
  go_enter Tryz.func5, Tryz.ntmps5
  go_wp2_with fail
  refine (anyLog_any w.heap.size A c l 0 _ hC0 (by omega)).mono ?_
  rintro e w1 ⟨B1, d1, L1, rfl, hl1, hm1, hO1, hC1, hFn⟩
  have hE1 : EL (w.heap.size + 1) w1 B1 d1 L1 := EL.of (by omega) hm1 hO1 hz
  clear hO1
  replace hB := hB.trans (hFn.below (B := w.heap.size) (Nat.le_refl _) hB.size)
  replace hz := Nat.le_trans hz hFn.size
  clear hFn hC0
  go_wp2_with fail
  refine (copyOf_any w.heap.size A c l (0 + 400) B1 d1 L1 _ _ _ hC1 (by omega) hl1 hE1.2.1 hE1.1.2 hE1.2.2 (.inr (by omega)) (Nat.le_refl _)).mono ?_
  rintro e w2 ⟨B2, d2, L2, rfl, hl2, hm2, hO2, hC2, hFn⟩
  replace hE1 := hE1.cur hFn
  have hE2 : EL (w.heap.size + 1) w2 B2 d2 L2 := EL.of (by omega) hm2 hO2 hz
  clear hO2
  replace hB := hB.trans (hFn.below (B := w.heap.size) (Nat.le_refl _) hB.size)
  replace hz := Nat.le_trans hz hFn.size
  clear hFn hC1
  go_wp2_with fail
  refine (one_any w.heap.size A c l (0 + 840) 2 _ hC2 (by omega) (by omega)).mono ?_
  rintro e w3 ⟨_, rfl, ⟨b, rfl⟩, hC3, hFn⟩
  replace hE1 := hE1.cur hFn
  replace hE2 := hE2.cur hFn
  replace hB := hB.trans (hFn.below (B := w.heap.size) (Nat.le_refl _) hB.size)
  replace hz := Nat.le_trans hz hFn.size
  clear hFn hC2
  cases b with
  | true =>
    go_wp2
    go_ret2
    exact ⟨B1, d1, L1, B2, d2, L2, rfl, hE1.lift (Nat.le_succ _), hE2.lift (Nat.le_succ _), hB⟩
  | false =>
    go_wp2_with fail
    refine (copyOf_any w.heap.size A c l (0 + 842) B1 d1 L1 _ _ _ hC3 (by omega) hl1 hE1.2.1 hE1.1.2 hE1.2.2 (.inr (by omega)) (Nat.le_refl _)).mono ?_
    rintro e w4 ⟨B3, d3, L3, rfl, hl3, hm3, hO3, hC4, hFn⟩
    replace hE1 := hE1.cur hFn
    replace hE2 := hE2.cur hFn
    have hE3 : EL (w.heap.size + 1) w4 B3 d3 L3 := EL.of (by omega) hm3 hO3 hz
    clear hO3
    replace hB := hB.trans (hFn.below (B := w.heap.size) (Nat.le_refl _) hB.size)
    replace hz := Nat.le_trans hz hFn.size
    clear hFn hC3
    go_wp2
    go_ret2
    exact ⟨B2, d2, L2, B3, d3, L3, rfl, hE2.lift (Nat.le_succ _), hE3.lift (Nat.le_succ _), hB⟩
set_option maxRecDepth 10000 in
set_option maxHeartbeats 4000000 in
theorem DrawIsBeginning_any (A : Option Addr) (c : Nat) (l : List Int) (w : World) (hl : l.length ≤ maxLen) (hm : ∀ x ∈ l, 0 ≤ x ∧ x ≤ 255) (hS : Sl byE 1 w 0 w.heap.size A l) :
    Calls Tryz.prog 14 #[.slice A l.length c] w fun e w' => ∃ (B1 : Option Addr) (d1 : Nat) (L1 : List Ent) (B2 : Option Addr) (d2 : Nat) (L2 : List Ent), e = .returned (.tuple #[.slice B1 L1.length d1, .slice B2 L2.length d2]) ∧ EL w.heap.size w' B1 d1 L1 ∧ EL w.heap.size w' B2 d2 L2 ∧ Below w.heap.size w w' := by
  have hC0 := Cur.new w A c l 48 w.heap.size rfl hS hm hl
  have hz : w.heap.size + 1 ≤ (w.alloc (.cells #[.slice A l.length c, .int .i64 0, .int .u64 0] 48)).heap.size := by simp
  have hB : Below w.heap.size w (w.alloc (.cells #[.slice A l.length c, .int .i64 0, .int .u64 0] 48)) := by go_grown
  clear hS hl hm
  go_enter Tryz.func14, Tryz.ntmps14
  go_wp2_with fail
  refine (anyLog_any w.heap.size A c l 0 _ hC0 (by omega)).mono ?_
  rintro e w1 ⟨B1, d1, L1, rfl, hl1, hm1, hO1, hC1, hFn⟩
  have hE1 : EL (w.heap.size + 1) w1 B1 d1 L1 := EL.of (by omega) hm1 hO1 hz
  clear hO1
  replace hB := hB.trans (hFn.below (B := w.heap.size) (Nat.le_refl _) hB.size)
  replace hz := Nat.le_trans hz hFn.size
  clear hFn hC0
  go_wp2_with fail
  refine (copyOf_any w.heap.size A c l (0 + 400) B1 d1 L1 _ _ _ hC1 (by omega) hl1 hE1.2.1 hE1.1.2 hE1.2.2 (.inr (by omega)) (Nat.le_refl _)).mono ?_
  rintro e w2 ⟨B2, d2, L2, rfl, hl2, hm2, hO2, hC2, hFn⟩
  replace hE1 := hE1.cur hFn
  have hE2 : EL (w.heap.size + 1) w2 B2 d2 L2 := EL.of (by omega) hm2 hO2 hz
  clear hO2
  replace hB := hB.trans (hFn.below (B := w.heap.size) (Nat.le_refl _) hB.size)
  replace hz := Nat.le_trans hz hFn.size
  clear hFn hC1
  go_wp2
  go_ret2
  exact ⟨B2, d2, L2, B1, d1, L1, rfl, hE2.lift (Nat.le_succ _), hE1.lift (Nat.le_succ _), hB⟩
set_option maxRecDepth 10000 in
set_option maxHeartbeats 4000000 in
theorem DrawHistoryOf_any (A : Option Addr) (c : Nat) (l : List Int) (w : World) (hl : l.length ≤ maxLen) (hm : ∀ x ∈ l, 0 ≤ x ∧ x ≤ 255) (hS : Sl byE 1 w 0 w.heap.size A l) :
    Calls Tryz.prog 16 #[.slice A l.length c] w fun e w' => ∃ (B1 : Option Addr) (d1 : Nat) (L1 : List Ent) (B2 : Option Addr) (d2 : Nat) (L2 : List Ent), e = .returned (.tuple #[.slice B1 L1.length d1, .slice B2 L2.length d2]) ∧ EL w.heap.size w' B1 d1 L1 ∧ EL w.heap.size w' B2 d2 L2 ∧ Below w.heap.size w w' := by
  have hC0 := Cur.new w A c l 48 w.heap.size rfl hS hm hl
  have hz : w.heap.size + 1 ≤ (w.alloc (.cells #[.slice A l.length c, .int .i64 0, .int .u64 0] 48)).heap.size := by simp
  have hB : Below w.heap.size w (w.alloc (.cells #[.slice A l.length c, .int .i64 0, .int .u64 0] 48)) := by go_grown
  clear hS hl hm
  go_enter Tryz.func16, Tryz.ntmps16
  go_wp2_with fail
  refine (one_any w.heap.size A c l 0 8 _ hC0 (by omega) (by omega)).mono ?_
  rintro e w1 ⟨_, rfl, ⟨b, rfl⟩, hC1, hFn⟩
  replace hB := hB.trans (hFn.below (B := w.heap.size) (Nat.le_refl _) hB.size)
  replace hz := Nat.le_trans hz hFn.size
  clear hFn hC0
  cases b with
  | true =>
    go_wp2_with fail
    refine (anyLog_any w.heap.size A c l (0 + 2) _ hC1 (by omega)).mono ?_
    rintro e w2 ⟨B1, d1, L1, rfl, hl1, hm1, hO1, hC2, hFn⟩
    have hE1 : EL (w.heap.size + 1) w2 B1 d1 L1 := EL.of (by omega) hm1 hO1 hz
    clear hO1
    replace hB := hB.trans (hFn.below (B := w.heap.size) (Nat.le_refl _) hB.size)
    replace hz := Nat.le_trans hz hFn.size
    clear hFn hC1
    go_wp2_with fail
    refine (anyLog_any w.heap.size A c l (0 + 402) _ hC2 (by omega)).mono ?_
    rintro e w3 ⟨B2, d2, L2, rfl, hl2, hm2, hO2, hC3, hFn⟩
    replace hE1 := hE1.cur hFn
    have hE2 : EL (w.heap.size + 1) w3 B2 d2 L2 := EL.of (by omega) hm2 hO2 hz
    clear hO2
    replace hB := hB.trans (hFn.below (B := w.heap.size) (Nat.le_refl _) hB.size)
    replace hz := Nat.le_trans hz hFn.size
    clear hFn hC2
    go_wp2
    go_ret2
    exact ⟨B1, d1, L1, B2, d2, L2, rfl, hE1.lift (Nat.le_succ _), hE2.lift (Nat.le_succ _), hB⟩
  | false =>
    go_wp2_with fail
    refine (log_any w.heap.size A c l (0 + 2) 1 _ hC1 (by omega)).mono ?_
    rintro e w2 ⟨B1, d1, L1, rfl, hg1, hO1, hC2, hFn⟩
    have hE1 : EL (w.heap.size + 1) w2 B1 d1 L1 := EL.of (log_in hg1) (log_small hg1) hO1 hz
    clear hO1
    replace hB := hB.trans (hFn.below (B := w.heap.size) (Nat.le_refl _) hB.size)
    replace hz := Nat.le_trans hz hFn.size
    clear hFn hC1
    go_wp2_with fail
    refine (log_any w.heap.size A c l (0 + 302) 2 _ hC2 (by omega)).mono ?_
    rintro e w3 ⟨B2, d2, L2, rfl, hg2, hO2, hC3, hFn⟩
    replace hE1 := hE1.cur hFn
    have hE2 : EL (w.heap.size + 1) w3 B2 d2 L2 := EL.of (log_in hg2) (log_small hg2) hO2 hz
    clear hO2
    replace hB := hB.trans (hFn.below (B := w.heap.size) (Nat.le_refl _) hB.size)
    replace hz := Nat.le_trans hz hFn.size
    clear hFn hC2
    go_wp2
    go_ret2
    exact ⟨B1, d1, L1, B2, d2, L2, rfl, hE1.lift (Nat.le_succ _), hE2.lift (Nat.le_succ _), hB⟩
set_option maxRecDepth 10000 in
set_option maxHeartbeats 4000000 in
theorem DrawPlaceOf_any (A : Option Addr) (c : Nat) (l : List Int) (w : World) (hl : l.length ≤ maxLen) (hm : ∀ x ∈ l, 0 ≤ x ∧ x ≤ 255) (hS : Sl byE 1 w 0 w.heap.size A l) :
    Calls Tryz.prog 22 #[.slice A l.length c] w fun e w' => ∃ (B1 : Option Addr) (d1 : Nat) (L1 : List Ent) (v n : Int), e = .returned (.tuple #[.slice B1 L1.length d1, .int .i64 v, .int .i64 n]) ∧ EL w.heap.size w' B1 d1 L1 ∧ Below w.heap.size w w' := by
  have hC0 := Cur.new w A c l 48 w.heap.size rfl hS hm hl
  have hz : w.heap.size + 1 ≤ (w.alloc (.cells #[.slice A l.length c, .int .i64 0, .int .u64 0] 48)).heap.size := by simp
  have hB : Below w.heap.size w (w.alloc (.cells #[.slice A l.length c, .int .i64 0, .int .u64 0] 48)) := by go_grown
  clear hS hl hm
  go_enter Tryz.func22, Tryz.ntmps22
  go_wp2_with fail
  refine (history_any w.heap.size A c l 0 _ hC0 (by omega)).mono ?_
  rintro e w1 ⟨B1, d1, L1, rfl, hO1, hC1, hFn⟩
  have hE1 : EL (w.heap.size + 1) w1 B1 d1 L1 := hO1.lift hz
  clear hO1
  replace hB := hB.trans (hFn.below (B := w.heap.size) (Nat.le_refl _) hB.size)
  replace hz := Nat.le_trans hz hFn.size
  clear hFn hC0
  go_wp2_with fail
  refine (among_lit w.heap.size A c l (0 + 640) [0, 3] 2 rfl _ _ _ _ (by simp) rfl hC1 (by omega) (by simp) (by simp)).mono ?_
  rintro e w2 ⟨v1, _, rfl, hC2, hFn⟩
  replace hE1 := hE1.cur hFn
  replace hB := hB.trans (hFn.below (B := w.heap.size) (Nat.le_refl _) hB.size)
  replace hz := Nat.le_trans hz hFn.size
  clear hFn hC1
  go_wp2_with fail
  refine (among_lit w.heap.size A c l (0 + 642) [1, 2, 1, 2, v1] 5 rfl _ _ _ _ (by simp) rfl hC2 (by omega) (by simp) (by simp)).mono ?_
  rintro e w3 ⟨v2, _, rfl, hC3, hFn⟩
  replace hE1 := hE1.cur hFn
  replace hB := hB.trans (hFn.below (B := w.heap.size) (Nat.le_refl _) hB.size)
  replace hz := Nat.le_trans hz hFn.size
  clear hFn hC2
  go_wp2_with fail
  refine (among_lit w.heap.size A c l (0 + 644) [0, 1000] 2 rfl _ _ _ _ (by simp) rfl hC3 (by omega) (by simp) (by simp)).mono ?_
  rintro e w4 ⟨v3, _, rfl, hC4, hFn⟩
  replace hE1 := hE1.cur hFn
  replace hB := hB.trans (hFn.below (B := w.heap.size) (Nat.le_refl _) hB.size)
  replace hz := Nat.le_trans hz hFn.size
  clear hFn hC3
  go_wp2_with fail
  refine (among_lit w.heap.size A c l (0 + 646) [1, 1, 2, 3, 999, v3] 6 rfl _ _ _ _ (by simp) rfl hC4 (by omega) (by simp) (by simp)).mono ?_
  rintro e w5 ⟨v4, _, rfl, hC5, hFn⟩
  replace hE1 := hE1.cur hFn
  replace hB := hB.trans (hFn.below (B := w.heap.size) (Nat.le_refl _) hB.size)
  replace hz := Nat.le_trans hz hFn.size
  clear hFn hC4
  go_wp2
  go_ret3
  exact ⟨B1, d1, L1, v2, v4, rfl, hE1.lift (Nat.le_succ _), hB⟩
set_option maxRecDepth 10000 in
set_option maxHeartbeats 4000000 in
theorem DrawActiveRoom_any (A : Option Addr) (c : Nat) (l : List Int) (w : World) (hl : l.length ≤ maxLen) (hm : ∀ x ∈ l, 0 ≤ x ∧ x ≤ 255) (hS : Sl byE 1 w 0 w.heap.size A l) :
    Calls Tryz.prog 19 #[.slice A l.length c] w fun e w' => ∃ (B1 : Option Addr) (d1 : Nat) (L1 : List Ent) (v : Int), e = .returned (.tuple #[.slice B1 L1.length d1, .int .i64 v]) ∧ EL w.heap.size w' B1 d1 L1 ∧ Below w.heap.size w w' := by
  have hC0 := Cur.new w A c l 48 w.heap.size rfl hS hm hl
  have hz : w.heap.size + 1 ≤ (w.alloc (.cells #[.slice A l.length c, .int .i64 0, .int .u64 0] 48)).heap.size := by simp
  have hB : Below w.heap.size w (w.alloc (.cells #[.slice A l.length c, .int .i64 0, .int .u64 0] 48)) := by go_grown
  clear hS hl hm
  go_enter Tryz.func19, Tryz.ntmps19
  go_wp2_with fail
  refine (history_any w.heap.size A c l 0 _ hC0 (by omega)).mono ?_
  rintro e w1 ⟨B1, d1, L1, rfl, hO1, hC1, hFn⟩
  have hE1 : EL (w.heap.size + 1) w1 B1 d1 L1 := hO1.lift hz
  clear hO1
  replace hB := hB.trans (hFn.below (B := w.heap.size) (Nat.le_refl _) hB.size)
  replace hz := Nat.le_trans hz hFn.size
  clear hFn hC0
  go_wp2_with fail
  refine (logMinute_any w.heap.size A c l (0 + 640) _ hC1 (by omega)).mono ?_
  rintro e w2 ⟨v, rfl, hC2, hFn⟩
  replace hE1 := hE1.cur hFn
  replace hB := hB.trans (hFn.below (B := w.heap.size) (Nat.le_refl _) hB.size)
  replace hz := Nat.le_trans hz hFn.size
  clear hFn hC1
  go_wp2
  go_ret2
  exact ⟨B1, d1, L1, v, rfl, hE1.lift (Nat.le_succ _), hB⟩
end Go.Proofs.YtmdmcjhodhphgaaGreat

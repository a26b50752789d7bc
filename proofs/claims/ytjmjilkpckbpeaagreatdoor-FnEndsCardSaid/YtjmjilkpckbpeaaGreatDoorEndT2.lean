/- TellState, the reference. Conditions: at most 2^20 in each list, texts of at most 2^20; the listed variables as Said has them. -/
import Derived.Test.YtjmjilkpckbpeaaGreatDoorEndT1
namespace Go.Proofs.YtjmjilkpckbpeaaGreatDoor
open Go.RowKit

set_option maxRecDepth 100000 in
set_option maxHeartbeats 8000000 in
theorem TellState_spec (Af : Option Addr) (cf : Nat) (f : List App) (An : Option Addr) (cn : Nat) (n : List App) (As : Option Addr) (cs : Nat) (s : List Msg) (Ar : Option Addr) (cr : Nat) (r : List Msg) (Ah : Option Addr) (ch : Nat) (h : List Msg) (nm : ByteArray) (st : Int) (w : World) (hE : EA w Af cf f An cn n As cs s Ar cr r Ah ch h) (hsn : nm.size ≤ 1048576) :
    Calls Tryz.prog 31 #[.agg #[.slice Af f.length cf, .slice An n.length cn, .slice As s.length cs, .slice Ar r.length cr, .slice Ah h.length ch], .string nm, .int .i64 st] w (RENT w (telT f n s r h nm st)) := by
  generalize hQ : telT f n s r h nm st = t
  replace hQ := Lib.hid hQ
  have e1 : (w.alloc (.cells #[.slice Af f.length cf, .slice An n.length cn, .slice As s.length cs, .slice Ar r.length cr, .slice Ah h.length ch] 52)).heap.size = w.heap.size + 1 := by simp
  have hB : Below w.heap.size w ((w.alloc (.cells #[.slice Af f.length cf, .slice An n.length cn, .slice As s.length cs, .slice Ar r.length cr, .slice Ah h.length ch] 52)).alloc (.cells #[.slice none 0 0, .slice none 0 0, .slice none 0 0, .slice none 0 0, .slice none 0 0] 52)) := by go_grown
  have hX : BN w.heap.size [.slice Af f.length cf, .slice An n.length cn, .slice As s.length cs, .slice Ar r.length cr, .slice Ah h.length ch] ((w.alloc (.cells #[.slice Af f.length cf, .slice An n.length cn, .slice As s.length cs, .slice Ar r.length cr, .slice Ah h.length ch] 52)).alloc (.cells #[.slice none 0 0, .slice none 0 0, .slice none 0 0, .slice none 0 0, .slice none 0 0] 52)) := (BN.new w #[.slice Af f.length cf, .slice An n.length cn, .slice As s.length cs, .slice Ar r.length cr, .slice Ah h.length ch] 52 _ rfl).alloc (by simp) (.cells #[.slice none 0 0, .slice none 0 0, .slice none 0 0, .slice none 0 0, .slice none 0 0] 52)
  have hR : BN (w.heap.size + 1) [.slice none 0 0, .slice none 0 0, .slice none 0 0, .slice none 0 0, .slice none 0 0] ((w.alloc (.cells #[.slice Af f.length cf, .slice An n.length cn, .slice As s.length cs, .slice Ar r.length cr, .slice Ah h.length ch] 52)).alloc (.cells #[.slice none 0 0, .slice none 0 0, .slice none 0 0, .slice none 0 0, .slice none 0 0] 52)) := BN.new (w.alloc (.cells #[.slice Af f.length cf, .slice An n.length cn, .slice As s.length cs, .slice Ar r.length cr, .slice Ah h.length ch] 52)) #[.slice none 0 0, .slice none 0 0, .slice none 0 0, .slice none 0 0, .slice none 0 0] 52 (w.heap.size + 1) e1.symm
  have hE0 := hE
  replace hE := hE.below hB
  have b0 := (hX 0 _ rfl).1
  have b1 := (hX 1 _ rfl).1
  have b2 := (hX 2 _ rfl).1
  have b3 := (hX 3 _ rfl).1
  have b4 := (hX 4 _ rfl).1
  go_enter Tryz.func31, Tryz.ntmps31
  go_wp2_with fail
  refine (stGood_any Af cf f An cn n As cs s Ar cr r Ah ch h _ hE.lf hE.mf hE.Sf hE.ln hE.mn hE.Sn hE.ls hE.ms hE.Ss hE.ks hE.lr hE.mr hE.Sr hE.kr hE.lh hE.mh hE.Sh hE.kh).mono ?_
  rintro e w1 ⟨rfl, hb⟩
  replace hX := hX.below (by simp) hb
  replace hR := hR.below (by simp) hb
  replace hE := hE.below hb
  replace hB := Below.on' hB hb
  clear b0 b1 b2 b3 b4 hb
  have b0 := (hX 0 _ rfl).1
  have b1 := (hX 1 _ rfl).1
  have b2 := (hX 2 _ rfl).1
  have b3 := (hX 3 _ rfl).1
  have b4 := (hX 4 _ rfl).1
  have hw1 : w.heap.size + 2 ≤ w1.heap.size := hR.lt (by simp)
  by_cases g : endsB f n s r h = true
  rotate_left
  · have g : endsB f n s r h = false := by simpa using g
    obtain rfl : enNo = t := (telT_no1 g).symm.trans hQ.out
    rw [g]
    have hR' := (((((hR.put (i := 0) rfl (.slice none 0 0)).put (i := 1) rfl (.slice none 0 0)).put (i := 2) rfl (.slice none 0 0)).put (i := 3) rfl (.slice none 0 0)).put (i := 4) rfl (.slice none 0 0))
    have hF : Fr ((w.heap.size + 1)) ((w.heap.size + 1) + 1) w1 (((((w1.setCell ⟨(w.heap.size + 1), 0, none⟩ (.slice none 0 0)).setCell ⟨(w.heap.size + 1), 1, none⟩ (.slice none 0 0)).setCell ⟨(w.heap.size + 1), 2, none⟩ (.slice none 0 0)).setCell ⟨(w.heap.size + 1), 3, none⟩ (.slice none 0 0)).setCell ⟨(w.heap.size + 1), 4, none⟩ (.slice none 0 0)) := ((((((Fr.refl _ _ _).setCell ⟨by simp, by simp⟩ _).setCell ⟨by simp, by simp⟩ _).setCell ⟨by simp, by simp⟩ _).setCell ⟨by simp, by simp⟩ _).setCell ⟨by simp, by simp⟩ _)
    have hB' := hB.trans (hF.below (B := w.heap.size) (by omega) (by have := hB.size; omega))
    have k0 := (hR 0 _ rfl).1
    have k1 := (hR 1 _ rfl).1
    have k2 := (hR 2 _ rfl).1
    have k3 := (hR 3 _ rfl).1
    have k4 := (hR 4 _ rfl).1
    have f0 := (hR 0 _ rfl).2
    have f1 := (hR 1 _ rfl).2
    have f2 := (hR 2 _ rfl).2
    have f3 := (hR 3 _ rfl).2
    have f4 := (hR 4 _ rfl).2
    have x0 := (hR' 0 _ rfl).1
    have x1 := (hR' 1 _ rfl).1
    have x2 := (hR' 2 _ rfl).1
    have x3 := (hR' 3 _ rfl).1
    have x4 := (hR' 4 _ rfl).1
    go_wp2
    refine bodyPost_ret (by simp [results, Tryz.results31, go_sem, x0, x1, x2, x3, x4]; try rfl) rfl ?_
    exact ⟨none, 0, none, 0, none, 0, none, 0, none, 0, rfl, IntE.nil_ hB'.size, hB'⟩
  rw [g]
  go_wp2_with fail
  refine (ChangeState_spec An cn n nm st _ hE.ln hE.mn hE.Sn).mono ?_
  have hln : (chgT n nm st).1.length ≤ n.length := chgT_len n nm st
  have hok : (chgT n nm st).2 = true → stOk st = true := fun h => (chgT_snd h).2.2
  have hD0 := Lib.hid (tel_if (nm := nm) (st := st) g)
  generalize chgT n nm st = C at hD0 hln hok ⊢
  obtain ⟨n', d0⟩ := C
  rintro e w2 ⟨A2, c2, rfl, hS2, hcc2, hb⟩
  replace hX := hX.below (by simp) hb
  replace hR := hR.below (by simp) hb
  replace hE := hE.below hb
  replace hB := Below.on' hB hb
  clear b0 b1 b2 b3 b4 hb
  have b0 := (hX 0 _ rfl).1
  have b1 := (hX 1 _ rfl).1
  have b2 := (hX 2 _ rfl).1
  have b3 := (hX 3 _ rfl).1
  have b4 := (hX 4 _ rfl).1
  have hl2 : n'.length ≤ 1048576 := Nat.le_trans hln hE.ln
  cases d0 with
  | false =>
    obtain rfl : enNo = t := by rw [← hQ.out, hD0.out]; rfl
    dsimp only at hD0 ⊢
    clear hD0 hok hln
    have hR' := (((((hR.put (i := 0) rfl (.slice none 0 0)).put (i := 1) rfl (.slice none 0 0)).put (i := 2) rfl (.slice none 0 0)).put (i := 3) rfl (.slice none 0 0)).put (i := 4) rfl (.slice none 0 0))
    have hF : Fr ((w.heap.size + 1)) ((w.heap.size + 1) + 1) w2 (((((w2.setCell ⟨(w.heap.size + 1), 0, none⟩ (.slice none 0 0)).setCell ⟨(w.heap.size + 1), 1, none⟩ (.slice none 0 0)).setCell ⟨(w.heap.size + 1), 2, none⟩ (.slice none 0 0)).setCell ⟨(w.heap.size + 1), 3, none⟩ (.slice none 0 0)).setCell ⟨(w.heap.size + 1), 4, none⟩ (.slice none 0 0)) := ((((((Fr.refl _ _ _).setCell ⟨by simp, by simp⟩ _).setCell ⟨by simp, by simp⟩ _).setCell ⟨by simp, by simp⟩ _).setCell ⟨by simp, by simp⟩ _).setCell ⟨by simp, by simp⟩ _)
    have hB' := hB.trans (hF.below (B := w.heap.size) (by omega) (by have := hB.size; omega))
    have k0 := (hR 0 _ rfl).1
    have k1 := (hR 1 _ rfl).1
    have k2 := (hR 2 _ rfl).1
    have k3 := (hR 3 _ rfl).1
    have k4 := (hR 4 _ rfl).1
    have f0 := (hR 0 _ rfl).2
    have f1 := (hR 1 _ rfl).2
    have f2 := (hR 2 _ rfl).2
    have f3 := (hR 3 _ rfl).2
    have f4 := (hR 4 _ rfl).2
    have x0 := (hR' 0 _ rfl).1
    have x1 := (hR' 1 _ rfl).1
    have x2 := (hR' 2 _ rfl).1
    have x3 := (hR' 3 _ rfl).1
    have x4 := (hR' 4 _ rfl).1
    go_wp2
    refine bodyPost_ret (by simp [results, Tryz.results31, go_sem, x0, x1, x2, x3, x4]; try rfl) rfl ?_
    exact ⟨none, 0, none, 0, none, 0, none, 0, none, 0, rfl, IntE.nil_ hB'.size, hB'⟩
  | true =>
  have hs1 := hok rfl
  clear hok hln
  dsimp only
  have hb2 : Below w2.heap.size w2 w2.drew := (Below.refl _ _).drew
  go_wp2_with fail
  refine wp_region_held_drew (S := fun w' => w'.cell? ⟨w.heap.size, 2, none⟩ = some (.slice As s.length cs) ∧ w'.cell? ⟨w.heap.size, 3, none⟩ = some (.slice Ar r.length cr) ∧ w'.cell? ⟨w.heap.size, 4, none⟩ = some (.slice Ah h.length ch)) (by kernel_rfl) ⟨b2, b3, b4⟩ (fun hHeld => ?_)
  have hEw := hE0
  have hX0 : BN w.heap.size [.slice Af f.length cf, .slice An n.length cn, .slice As s.length cs, .slice Ar r.length cr, .slice Ah h.length ch] w2.drew := hX.drew
  have hR0 : BN (w.heap.size + 1) [.slice none 0 0, .slice none 0 0, .slice none 0 0, .slice none 0 0, .slice none 0 0] w2.drew := hR.drew
  have hS0 := hS2.drew
  have hE0 : EA w2.drew Af cf f An cn n As cs s Ar cr r Ah ch h := hE.below hb2
  have hB0 := hB.drew
  have hz2 : w2.drew.heap.size = w2.heap.size := rfl
  clear hX hR hS2 hE hB b0 b1 b2 b3 b4
  generalize w2.drew = W0 at hX0 hR0 hS0 hE0 hB0 hz2 hHeld hb2 ⊢
  have hz2a : w2.heap.size ≤ W0.heap.size := by omega
  have hz2b : W0.heap.size ≤ w2.heap.size := by omega
  clear hz2
  change wpAnyH _ _ _ _ _ 12 #[false, false, false, false, false, false, false, false, false, false, false, false] _ _
  refine wpAnyH_takeL (i := 0) (v := .pointer (some ⟨w.heap.size, 2, none⟩)) rfl (by kernel_rfl) (by kernel_rfl) (by kernel_rfl) (fun _ _ _ h => h) (Or.inl ⟨by rfl, fun w' hSw => by go_simp⟩) ⟨(hX0 2 _ rfl).1, (hX0 3 _ rfl).1, (hX0 4 _ rfl).1⟩ ?_
  simp only [Act.put, List.setIfInBounds_toArray, List.set_cons_zero, List.set_cons_succ]
  refine wpAnyH_takeL (i := 1) (v := .agg #[.slice As s.length cs, .slice Ar r.length cr, .slice Ah h.length ch]) rfl (by kernel_rfl) (by kernel_rfl) (by kernel_rfl) (fun _ _ _ h => h) (Or.inl ⟨by rfl, fun w' hSw => by obtain ⟨z2, z3, z4⟩ := hSw; go_simp⟩) ⟨(hX0 2 _ rfl).1, (hX0 3 _ rfl).1, (hX0 4 _ rfl).1⟩ ?_
  simp only [Act.put, List.setIfInBounds_toArray, List.set_cons_zero, List.set_cons_succ]
  refine wpAnyH_takeL (i := 2) (v := .string nm) rfl (by kernel_rfl) (by kernel_rfl) (by kernel_rfl) (fun _ _ _ h => h) (Or.inl ⟨by rfl, fun w' hSw => by obtain ⟨z2, z3, z4⟩ := hSw; go_simp⟩) ⟨(hX0 2 _ rfl).1, (hX0 3 _ rfl).1, (hX0 4 _ rfl).1⟩ ?_
  simp only [Act.put, List.setIfInBounds_toArray, List.set_cons_zero, List.set_cons_succ]
  refine wpAnyH_takeL (i := 3) (v := .int .i64 st) rfl (by kernel_rfl) (by kernel_rfl) (by kernel_rfl) (fun _ _ _ h => h) (Or.inl ⟨by rfl, fun w' hSw => by obtain ⟨z2, z3, z4⟩ := hSw; go_simp⟩) ⟨(hX0 2 _ rfl).1, (hX0 3 _ rfl).1, (hX0 4 _ rfl).1⟩ ?_
  simp only [Act.put, List.setIfInBounds_toArray, List.set_cons_zero, List.set_cons_succ]
  refine wpAnyH_ready (rs := [4, 9]) (by kernel_rfl) (by simp) ?_
  refine AllReadyH.consL rfl (fun K hK => ?_) (AllReadyH.consL rfl (fun K hK => ?_) AllReadyH.nil)
  · go_simp
    go_at_call 109
    refine (stBody_a st (stOk_in hs1).1 (by have := stOk_in hs1; omega) _).mono ?_
    rintro e V1 ⟨rfl, hb⟩
    have hX1 := hX0.below (by simp) hb
    have hR1 := hR0.below (by simp) hb
    have hS1 := hS0.below hb
    have hE1 := hE0.below hb
    have hB1 := Below.on' hB0 hb
    have hz1 := (hb).size
    clear hX0 hR0 hS0 hE0 hB0 hb
    go_simp
    refine hK.out _ _ ⟨(hX1 2 _ rfl).1, (hX1 3 _ rfl).1, (hX1 4 _ rfl).1⟩ (fun hHeld => ?_)
    clear hK K
    simp only [List.setIfInBounds_toArray, List.set_cons_zero, List.set_cons_succ]
    refine wpAnyH_ready (rs := [5, 9]) (by kernel_rfl) (by simp) ?_
    refine AllReadyH.consL rfl (fun K hK => ?_) (AllReadyH.consL rfl (fun K hK => ?_) AllReadyH.nil)
    · have hpv := hR1.lt (by simp)
      go_simp
      go_at_call 108
      refine (SendMessage_spec As cs s Ar cr r Ah ch h nm (stT st) _ hE1.ls hE1.ms hE1.Ss hE1.ks hE1.lr hE1.mr hE1.Sr hE1.kr hE1.lh hE1.mh hE1.Sh hE1.kh hsn (size_st hs1)).mono ?_
      have hD := Lib.hid (show t = if (sndT s r h nm (stT st)).2 = true then ((f, n', (sndT s r h nm (stT st)).1.1, (sndT s r h nm (stT st)).1.2.1, (sndT s r h nm (stT st)).1.2.2), true) else enNo by rw [← hQ.out, hD0.out]; rfl)
      clear hD0 hQ
      generalize sndT s r h nm (stT st) = D at hD ⊢
      obtain ⟨⟨d1, d2, d3⟩, d⟩ := D
      rintro e V2 ⟨A3, c3, A4, c4, A5, c5, rfl, hI, hb⟩
      have hX2 := hX1.below (by simp) hb
      have hR2 := hR1.below (by simp) hb
      have hS2 := hS1.below hb
      have hE2 := hE1.below hb
      have hB2 := Below.on' hB1 hb
      have hz2 := (hb).size
      clear hX1 hR1 hS1 hE1 hB1 hb
      dsimp only
      go_simp
      refine hK.out _ _ ⟨(hX2 2 _ rfl).1, (hX2 3 _ rfl).1, (hX2 4 _ rfl).1⟩ (fun hHeld => ?_)
      clear hK K
      simp only [List.setIfInBounds_toArray, List.set_cons_zero, List.set_cons_succ]
      refine wpAnyH_takeL (i := 6) (v := .tuple #[.agg #[.slice A3 d1.length c3, .slice A4 d2.length c4, .slice A5 d3.length c5], .bool d]) rfl (by kernel_rfl) (by kernel_rfl) (by kernel_rfl) (fun _ _ _ h => h) (Or.inl ⟨by rfl, fun w' hSw => by obtain ⟨z2, z3, z4⟩ := hSw; go_simp⟩) ⟨(hX2 2 _ rfl).1, (hX2 3 _ rfl).1, (hX2 4 _ rfl).1⟩ ?_
      simp only [Act.put, List.setIfInBounds_toArray, List.set_cons_zero, List.set_cons_succ]
      refine wpAnyH_takeL (i := 7) (v := .agg #[.slice A3 d1.length c3, .slice A4 d2.length c4, .slice A5 d3.length c5]) rfl (by kernel_rfl) (by kernel_rfl) (by kernel_rfl) (fun _ _ _ h => h) (Or.inl ⟨by rfl, fun w' hSw => by obtain ⟨z2, z3, z4⟩ := hSw; go_simp⟩) ⟨(hX2 2 _ rfl).1, (hX2 3 _ rfl).1, (hX2 4 _ rfl).1⟩ ?_
      simp only [Act.put, List.setIfInBounds_toArray, List.set_cons_zero, List.set_cons_succ]
      refine wpAnyH_takeL (i := 8) (v := .bool d) rfl (by kernel_rfl) (by kernel_rfl) (by kernel_rfl) (fun _ _ _ h => h) (Or.inl ⟨by rfl, fun w' hSw => by obtain ⟨z2, z3, z4⟩ := hSw; go_simp⟩) ⟨(hX2 2 _ rfl).1, (hX2 3 _ rfl).1, (hX2 4 _ rfl).1⟩ ?_
      simp only [Act.put, List.setIfInBounds_toArray, List.set_cons_zero, List.set_cons_succ]
      refine wpAnyH_ready (rs := [9]) (by kernel_rfl) (by simp) ?_
      refine AllReadyH.consL rfl (fun K hK => ?_) AllReadyH.nil
      go_simp
      have hbz : Below V2.heap.size V2 (V2.alloc (.cells #[.slice none 0 0, .slice none 0 0, .slice none 0 0] 26)) := (Below.refl _ _).alloc (Nat.le_refl _) _
      obtain ⟨pb, hpb⟩ : ∃ pb, pb = V2.heap.size := ⟨_, rfl⟩
      have hN3 := BN.new V2 #[.slice none 0 0, .slice none 0 0, .slice none 0 0] 26 pb hpb
      have hpw := hR2.lt (by simp)
      have hX3 := hX2.below (by simp) hbz
      have hR3 := hR2.below (by simp) hbz
      have hS3 := hS2.below hbz
      have hE3 := hE2.below hbz
      have hB3 := Below.on' hB2 hbz
      have hz3 := (hbz).size
      clear hX2 hR2 hS2 hE2 hB2
      refine hK.out _ _ ⟨(hX3 2 _ rfl).1, (hX3 3 _ rfl).1, (hX3 4 _ rfl).1⟩ (fun hHeld => ?_)
      clear hK K
      simp only [List.setIfInBounds_toArray, List.set_cons_zero, List.set_cons_succ]
      rw [← hpb]
      have hp1 : pb ≤ V2.heap.size := by omega
      have hp2 : V2.heap.size ≤ pb := by omega
      clear hpb
      refine wpAnyH_ready (rs := [10]) (by kernel_rfl) (by simp) ?_
      refine AllReadyH.consL rfl (fun K hK => ?_) AllReadyH.nil
      have n0 := (hN3 0 _ rfl).1
      have m0 := (hN3 0 _ rfl).2
      have n1 := (hN3 1 _ rfl).1
      have m1 := (hN3 1 _ rfl).2
      have n2 := (hN3 2 _ rfl).1
      have m2 := (hN3 2 _ rfl).2
      have hpl := hN3.lt (by simp)
      go_simp
      have hY := (((hN3.put (i := 0) rfl (.slice A3 d1.length c3)).put (i := 1) rfl (.slice A4 d2.length c4)).put (i := 2) rfl (.slice A5 d3.length c5))
      have hF5 : Fr pb (pb + 1) (V2.alloc (.cells #[.slice none 0 0, .slice none 0 0, .slice none 0 0] 26)) ((((V2.alloc (.cells #[.slice none 0 0, .slice none 0 0, .slice none 0 0] 26)).setCell ⟨pb, 0, none⟩ (.slice A3 d1.length c3)).setCell ⟨pb, 1, none⟩ (.slice A4 d2.length c4)).setCell ⟨pb, 2, none⟩ (.slice A5 d3.length c5)) := ((((Fr.refl _ _ _).setCell ⟨by simp, by simp⟩ _).setCell ⟨by simp, by simp⟩ _).setCell ⟨by simp, by simp⟩ _)
      have hX9 := hX3.same (hF5.block w.heap.size (by have := hX3.lt (by simp); omega) (by omega))
      have hR := hR3.same (hF5.block (w.heap.size + 1) (by have := hR3.lt (by simp); omega) (by omega))
      have hS2 := hS3.fr hF5 (by omega)
      have hB := hB3.trans (hF5.below (B := w.heap.size) (by omega) (by have := hB3.size; omega))
      have hE := hEw.below hB
      have hI' := (IntC.off hI hbz hF5 (by omega) (b0 := w.heap.size + 2) (by omega))
      have hz9 := hF5.size
      have hBs := hB.size
      refine hK.out _ _ ⟨(hX9 2 _ rfl).1, (hX9 3 _ rfl).1, (hX9 4 _ rfl).1⟩ (fun hHeld => ?_)
      clear hK K
      simp only [List.setIfInBounds_toArray, List.set_cons_zero, List.set_cons_succ]
      clear hX3 hR3 hS3 hE3 hB3 hN3 n0 n1 n2 m0 m1 m2 hF5 hI
      generalize ((((V2.alloc (.cells #[.slice none 0 0, .slice none 0 0, .slice none 0 0] 26)).setCell ⟨pb, 0, none⟩ (.slice A3 d1.length c3)).setCell ⟨pb, 1, none⟩ (.slice A4 d2.length c4)).setCell ⟨pb, 2, none⟩ (.slice A5 d3.length c5)) = w5 at hY hX9 hR hS2 hE hB hI' hz9 hBs hHeld ⊢
      refine wpAnyH_takeL (i := 11) (v := .bool d) rfl (by kernel_rfl) (by kernel_rfl) (by kernel_rfl) (fun _ _ _ h => h) (Or.inl ⟨by rfl, fun w' hSw => by obtain ⟨z2, z3, z4⟩ := hSw; go_simp⟩) ⟨(hX9 2 _ rfl).1, (hX9 3 _ rfl).1, (hX9 4 _ rfl).1⟩ ?_
      simp only [Act.put, List.setIfInBounds_toArray, List.set_cons_zero, List.set_cons_succ]
      refine wpAnyH_done (by kernel_rfl) ?_ _
      have y0 := (hY 0 _ rfl).1
      have y1 := (hY 1 _ rfl).1
      have y2 := (hY 2 _ rfl).1
      have b0 := (hX9 0 _ rfl).1
      have b1 := (hX9 1 _ rfl).1
      have b2 := (hX9 2 _ rfl).1
      have b3 := (hX9 3 _ rfl).1
      have b4 := (hX9 4 _ rfl).1
      cases d with
      | false =>
        obtain rfl : t = enNo := hD.out
        dsimp only at hD ⊢
        clear hD
        have hR' := (((((hR.put (i := 0) rfl (.slice none 0 0)).put (i := 1) rfl (.slice none 0 0)).put (i := 2) rfl (.slice none 0 0)).put (i := 3) rfl (.slice none 0 0)).put (i := 4) rfl (.slice none 0 0))
        have hF : Fr ((w.heap.size + 1)) ((w.heap.size + 1) + 1) w5 (((((w5.setCell ⟨(w.heap.size + 1), 0, none⟩ (.slice none 0 0)).setCell ⟨(w.heap.size + 1), 1, none⟩ (.slice none 0 0)).setCell ⟨(w.heap.size + 1), 2, none⟩ (.slice none 0 0)).setCell ⟨(w.heap.size + 1), 3, none⟩ (.slice none 0 0)).setCell ⟨(w.heap.size + 1), 4, none⟩ (.slice none 0 0)) := ((((((Fr.refl _ _ _).setCell ⟨by simp, by simp⟩ _).setCell ⟨by simp, by simp⟩ _).setCell ⟨by simp, by simp⟩ _).setCell ⟨by simp, by simp⟩ _).setCell ⟨by simp, by simp⟩ _)
        have hB' := hB.trans (hF.below (B := w.heap.size) (by omega) (by have := hB.size; omega))
        have k0 := (hR 0 _ rfl).1
        have k1 := (hR 1 _ rfl).1
        have k2 := (hR 2 _ rfl).1
        have k3 := (hR 3 _ rfl).1
        have k4 := (hR 4 _ rfl).1
        have f0 := (hR 0 _ rfl).2
        have f1 := (hR 1 _ rfl).2
        have f2 := (hR 2 _ rfl).2
        have f3 := (hR 3 _ rfl).2
        have f4 := (hR 4 _ rfl).2
        have x0 := (hR' 0 _ rfl).1
        have x1 := (hR' 1 _ rfl).1
        have x2 := (hR' 2 _ rfl).1
        have x3 := (hR' 3 _ rfl).1
        have x4 := (hR' 4 _ rfl).1
        go_wp2
        refine bodyPost_ret (by simp [results, Tryz.results31, go_sem, x0, x1, x2, x3, x4]; try rfl) rfl ?_
        exact ⟨none, 0, none, 0, none, 0, none, 0, none, 0, rfl, IntE.nil_ hB'.size, hB'⟩
      | true =>
        obtain rfl : t = ((f, n', d1, d2, d3), true) := hD.out
        clear hD
        go_wp2_with fail
        refine (stWith_any Af cf f (.slice An n.length cn) (.slice As s.length cs) (.slice Ar r.length cr) (.slice Ah h.length ch) A2 c2 n' A3 d1.length c3 A4 d2.length c4 A5 d3.length c5 _ hE.lf hE.Sf hl2 hS2.all).mono ?_
        rintro e w6 ⟨A1, c1, A6, c6, rfl, hF, hb⟩
        have hIE := IntE.of_f hF hI' hb (by omega)
        replace hR := hR.below (by simp) hb
        replace hB := Below.on' hB hb
        have hz3 := hB.size
        have hlt := hR.lt (by simp)
        clear b0 b1 b2 b3 b4 y0 y1 y2 hb hF
        have hR' := (((((hR.put (i := 0) rfl (.slice A1 f.length c1)).put (i := 1) rfl (.slice A6 n'.length c6)).put (i := 2) rfl (.slice A3 d1.length c3)).put (i := 3) rfl (.slice A4 d2.length c4)).put (i := 4) rfl (.slice A5 d3.length c5))
        have hF : Fr ((w.heap.size + 1)) ((w.heap.size + 1) + 1) w6 (((((w6.setCell ⟨(w.heap.size + 1), 0, none⟩ (.slice A1 f.length c1)).setCell ⟨(w.heap.size + 1), 1, none⟩ (.slice A6 n'.length c6)).setCell ⟨(w.heap.size + 1), 2, none⟩ (.slice A3 d1.length c3)).setCell ⟨(w.heap.size + 1), 3, none⟩ (.slice A4 d2.length c4)).setCell ⟨(w.heap.size + 1), 4, none⟩ (.slice A5 d3.length c5)) := ((((((Fr.refl _ _ _).setCell ⟨by simp, by simp⟩ _).setCell ⟨by simp, by simp⟩ _).setCell ⟨by simp, by simp⟩ _).setCell ⟨by simp, by simp⟩ _).setCell ⟨by simp, by simp⟩ _)
        have hB' := hB.trans (hF.below (B := w.heap.size) (by omega) (by have := hB.size; omega))
        have k0 := (hR 0 _ rfl).1
        have k1 := (hR 1 _ rfl).1
        have k2 := (hR 2 _ rfl).1
        have k3 := (hR 3 _ rfl).1
        have k4 := (hR 4 _ rfl).1
        have f0 := (hR 0 _ rfl).2
        have f1 := (hR 1 _ rfl).2
        have f2 := (hR 2 _ rfl).2
        have f3 := (hR 3 _ rfl).2
        have f4 := (hR 4 _ rfl).2
        have x0 := (hR' 0 _ rfl).1
        have x1 := (hR' 1 _ rfl).1
        have x2 := (hR' 2 _ rfl).1
        have x3 := (hR' 3 _ rfl).1
        have x4 := (hR' 4 _ rfl).1
        go_wp2
        refine bodyPost_ret (by simp [results, Tryz.results31, go_sem, x0, x1, x2, x3, x4]; try rfl) rfl ?_
        exact ⟨A1, c1, A6, c6, A3, c3, A4, c4, A5, c5, rfl, hIE.fr hF (Nat.le_refl _) |>.lift (by omega), hB'⟩
    · go_simp
      have hbz : Below V1.heap.size V1 (V1.alloc (.cells #[.slice none 0 0, .slice none 0 0, .slice none 0 0] 26)) := (Below.refl _ _).alloc (Nat.le_refl _) _
      obtain ⟨pb, hpb⟩ : ∃ pb, pb = V1.heap.size := ⟨_, rfl⟩
      have hN2 := BN.new V1 #[.slice none 0 0, .slice none 0 0, .slice none 0 0] 26 pb hpb
      have hpw := hR1.lt (by simp)
      have hX2 := hX1.below (by simp) hbz
      have hR2 := hR1.below (by simp) hbz
      have hS2 := hS1.below hbz
      have hE2 := hE1.below hbz
      have hB2 := Below.on' hB1 hbz
      have hz2 := (hbz).size
      clear hX1 hR1 hS1 hE1 hB1
      refine hK.out _ _ ⟨(hX2 2 _ rfl).1, (hX2 3 _ rfl).1, (hX2 4 _ rfl).1⟩ (fun hHeld => ?_)
      clear hK K
      simp only [List.setIfInBounds_toArray, List.set_cons_zero, List.set_cons_succ]
      rw [← hpb]
      have hp1 : pb ≤ V1.heap.size := by omega
      have hp2 : V1.heap.size ≤ pb := by omega
      clear hpb
      generalize V1.alloc (.cells #[.slice none 0 0, .slice none 0 0, .slice none 0 0] 26) = V2 at hX2 hR2 hS2 hE2 hB2 hN2 hz2 hHeld ⊢
      refine wpAnyH_ready (rs := [5]) (by kernel_rfl) (by simp) ?_
      refine AllReadyH.consL rfl (fun K hK => ?_) AllReadyH.nil
      have hpv := hR2.lt (by simp)
      have hpn := hN2.lt (by simp)
      go_simp
      go_at_call 108
      refine (SendMessage_spec As cs s Ar cr r Ah ch h nm (stT st) _ hE2.ls hE2.ms hE2.Ss hE2.ks hE2.lr hE2.mr hE2.Sr hE2.kr hE2.lh hE2.mh hE2.Sh hE2.kh hsn (size_st hs1)).mono ?_
      have hD := Lib.hid (show t = if (sndT s r h nm (stT st)).2 = true then ((f, n', (sndT s r h nm (stT st)).1.1, (sndT s r h nm (stT st)).1.2.1, (sndT s r h nm (stT st)).1.2.2), true) else enNo by rw [← hQ.out, hD0.out]; rfl)
      clear hD0 hQ
      generalize sndT s r h nm (stT st) = D at hD ⊢
      obtain ⟨⟨d1, d2, d3⟩, d⟩ := D
      rintro e V3 ⟨A3, c3, A4, c4, A5, c5, rfl, hI, hb⟩
      have hX3 := hX2.below (by simp) hb
      have hR3 := hR2.below (by simp) hb
      have hS3 := hS2.below hb
      have hE3 := hE2.below hb
      have hB3 := Below.on' hB2 hb
      have hz3 := (hb).size
      have hN3 := hN2.below (by simp) hb
      clear hX2 hR2 hS2 hE2 hB2 hN2 hb
      dsimp only
      go_simp
      refine hK.out _ _ ⟨(hX3 2 _ rfl).1, (hX3 3 _ rfl).1, (hX3 4 _ rfl).1⟩ (fun hHeld => ?_)
      clear hK K
      simp only [List.setIfInBounds_toArray, List.set_cons_zero, List.set_cons_succ]
      refine wpAnyH_takeL (i := 6) (v := .tuple #[.agg #[.slice A3 d1.length c3, .slice A4 d2.length c4, .slice A5 d3.length c5], .bool d]) rfl (by kernel_rfl) (by kernel_rfl) (by kernel_rfl) (fun _ _ _ h => h) (Or.inl ⟨by rfl, fun w' hSw => by obtain ⟨z2, z3, z4⟩ := hSw; go_simp⟩) ⟨(hX3 2 _ rfl).1, (hX3 3 _ rfl).1, (hX3 4 _ rfl).1⟩ ?_
      simp only [Act.put, List.setIfInBounds_toArray, List.set_cons_zero, List.set_cons_succ]
      refine wpAnyH_takeL (i := 7) (v := .agg #[.slice A3 d1.length c3, .slice A4 d2.length c4, .slice A5 d3.length c5]) rfl (by kernel_rfl) (by kernel_rfl) (by kernel_rfl) (fun _ _ _ h => h) (Or.inl ⟨by rfl, fun w' hSw => by obtain ⟨z2, z3, z4⟩ := hSw; go_simp⟩) ⟨(hX3 2 _ rfl).1, (hX3 3 _ rfl).1, (hX3 4 _ rfl).1⟩ ?_
      simp only [Act.put, List.setIfInBounds_toArray, List.set_cons_zero, List.set_cons_succ]
      refine wpAnyH_takeL (i := 8) (v := .bool d) rfl (by kernel_rfl) (by kernel_rfl) (by kernel_rfl) (fun _ _ _ h => h) (Or.inl ⟨by rfl, fun w' hSw => by obtain ⟨z2, z3, z4⟩ := hSw; go_simp⟩) ⟨(hX3 2 _ rfl).1, (hX3 3 _ rfl).1, (hX3 4 _ rfl).1⟩ ?_
      simp only [Act.put, List.setIfInBounds_toArray, List.set_cons_zero, List.set_cons_succ]
      refine wpAnyH_ready (rs := [10]) (by kernel_rfl) (by simp) ?_
      refine AllReadyH.consL rfl (fun K hK => ?_) AllReadyH.nil
      have n0 := (hN3 0 _ rfl).1
      have m0 := (hN3 0 _ rfl).2
      have n1 := (hN3 1 _ rfl).1
      have m1 := (hN3 1 _ rfl).2
      have n2 := (hN3 2 _ rfl).1
      have m2 := (hN3 2 _ rfl).2
      have hpl := hN3.lt (by simp)
      go_simp
      have hY := (((hN3.put (i := 0) rfl (.slice A3 d1.length c3)).put (i := 1) rfl (.slice A4 d2.length c4)).put (i := 2) rfl (.slice A5 d3.length c5))
      have hF5 : Fr pb (pb + 1) V3 (((V3.setCell ⟨pb, 0, none⟩ (.slice A3 d1.length c3)).setCell ⟨pb, 1, none⟩ (.slice A4 d2.length c4)).setCell ⟨pb, 2, none⟩ (.slice A5 d3.length c5)) := ((((Fr.refl _ _ _).setCell ⟨by simp, by simp⟩ _).setCell ⟨by simp, by simp⟩ _).setCell ⟨by simp, by simp⟩ _)
      have hX9 := hX3.same (hF5.block w.heap.size (by have := hX3.lt (by simp); omega) (by omega))
      have hR := hR3.same (hF5.block (w.heap.size + 1) (by have := hR3.lt (by simp); omega) (by omega))
      have hS2 := hS3.fr hF5 (by omega)
      have hB := hB3.trans (hF5.below (B := w.heap.size) (by omega) (by have := hB3.size; omega))
      have hE := hEw.below hB
      have hI' := hI.fr hF5 (by omega) (b0 := w.heap.size + 2) (by omega)
      have hz9 := hF5.size
      have hBs := hB.size
      refine hK.out _ _ ⟨(hX9 2 _ rfl).1, (hX9 3 _ rfl).1, (hX9 4 _ rfl).1⟩ (fun hHeld => ?_)
      clear hK K
      simp only [List.setIfInBounds_toArray, List.set_cons_zero, List.set_cons_succ]
      clear hX3 hR3 hS3 hE3 hB3 hN3 n0 n1 n2 m0 m1 m2 hF5 hI
      generalize (((V3.setCell ⟨pb, 0, none⟩ (.slice A3 d1.length c3)).setCell ⟨pb, 1, none⟩ (.slice A4 d2.length c4)).setCell ⟨pb, 2, none⟩ (.slice A5 d3.length c5)) = w5 at hY hX9 hR hS2 hE hB hI' hz9 hBs hHeld ⊢
      refine wpAnyH_takeL (i := 11) (v := .bool d) rfl (by kernel_rfl) (by kernel_rfl) (by kernel_rfl) (fun _ _ _ h => h) (Or.inl ⟨by rfl, fun w' hSw => by obtain ⟨z2, z3, z4⟩ := hSw; go_simp⟩) ⟨(hX9 2 _ rfl).1, (hX9 3 _ rfl).1, (hX9 4 _ rfl).1⟩ ?_
      simp only [Act.put, List.setIfInBounds_toArray, List.set_cons_zero, List.set_cons_succ]
      refine wpAnyH_done (by kernel_rfl) ?_ _
      have y0 := (hY 0 _ rfl).1
      have y1 := (hY 1 _ rfl).1
      have y2 := (hY 2 _ rfl).1
      have b0 := (hX9 0 _ rfl).1
      have b1 := (hX9 1 _ rfl).1
      have b2 := (hX9 2 _ rfl).1
      have b3 := (hX9 3 _ rfl).1
      have b4 := (hX9 4 _ rfl).1
      cases d with
      | false =>
        obtain rfl : t = enNo := hD.out
        dsimp only at hD ⊢
        clear hD
        have hR' := (((((hR.put (i := 0) rfl (.slice none 0 0)).put (i := 1) rfl (.slice none 0 0)).put (i := 2) rfl (.slice none 0 0)).put (i := 3) rfl (.slice none 0 0)).put (i := 4) rfl (.slice none 0 0))
        have hF : Fr ((w.heap.size + 1)) ((w.heap.size + 1) + 1) w5 (((((w5.setCell ⟨(w.heap.size + 1), 0, none⟩ (.slice none 0 0)).setCell ⟨(w.heap.size + 1), 1, none⟩ (.slice none 0 0)).setCell ⟨(w.heap.size + 1), 2, none⟩ (.slice none 0 0)).setCell ⟨(w.heap.size + 1), 3, none⟩ (.slice none 0 0)).setCell ⟨(w.heap.size + 1), 4, none⟩ (.slice none 0 0)) := ((((((Fr.refl _ _ _).setCell ⟨by simp, by simp⟩ _).setCell ⟨by simp, by simp⟩ _).setCell ⟨by simp, by simp⟩ _).setCell ⟨by simp, by simp⟩ _).setCell ⟨by simp, by simp⟩ _)
        have hB' := hB.trans (hF.below (B := w.heap.size) (by omega) (by have := hB.size; omega))
        have k0 := (hR 0 _ rfl).1
        have k1 := (hR 1 _ rfl).1
        have k2 := (hR 2 _ rfl).1
        have k3 := (hR 3 _ rfl).1
        have k4 := (hR 4 _ rfl).1
        have f0 := (hR 0 _ rfl).2
        have f1 := (hR 1 _ rfl).2
        have f2 := (hR 2 _ rfl).2
        have f3 := (hR 3 _ rfl).2
        have f4 := (hR 4 _ rfl).2
        have x0 := (hR' 0 _ rfl).1
        have x1 := (hR' 1 _ rfl).1
        have x2 := (hR' 2 _ rfl).1
        have x3 := (hR' 3 _ rfl).1
        have x4 := (hR' 4 _ rfl).1
        go_wp2
        refine bodyPost_ret (by simp [results, Tryz.results31, go_sem, x0, x1, x2, x3, x4]; try rfl) rfl ?_
        exact ⟨none, 0, none, 0, none, 0, none, 0, none, 0, rfl, IntE.nil_ hB'.size, hB'⟩
      | true =>
        obtain rfl : t = ((f, n', d1, d2, d3), true) := hD.out
        clear hD
        go_wp2_with fail
        refine (stWith_any Af cf f (.slice An n.length cn) (.slice As s.length cs) (.slice Ar r.length cr) (.slice Ah h.length ch) A2 c2 n' A3 d1.length c3 A4 d2.length c4 A5 d3.length c5 _ hE.lf hE.Sf hl2 hS2.all).mono ?_
        rintro e w6 ⟨A1, c1, A6, c6, rfl, hF, hb⟩
        have hIE := IntE.of_f hF hI' hb (by omega)
        replace hR := hR.below (by simp) hb
        replace hB := Below.on' hB hb
        have hz3 := hB.size
        have hlt := hR.lt (by simp)
        clear b0 b1 b2 b3 b4 y0 y1 y2 hb hF
        have hR' := (((((hR.put (i := 0) rfl (.slice A1 f.length c1)).put (i := 1) rfl (.slice A6 n'.length c6)).put (i := 2) rfl (.slice A3 d1.length c3)).put (i := 3) rfl (.slice A4 d2.length c4)).put (i := 4) rfl (.slice A5 d3.length c5))
        have hF : Fr ((w.heap.size + 1)) ((w.heap.size + 1) + 1) w6 (((((w6.setCell ⟨(w.heap.size + 1), 0, none⟩ (.slice A1 f.length c1)).setCell ⟨(w.heap.size + 1), 1, none⟩ (.slice A6 n'.length c6)).setCell ⟨(w.heap.size + 1), 2, none⟩ (.slice A3 d1.length c3)).setCell ⟨(w.heap.size + 1), 3, none⟩ (.slice A4 d2.length c4)).setCell ⟨(w.heap.size + 1), 4, none⟩ (.slice A5 d3.length c5)) := ((((((Fr.refl _ _ _).setCell ⟨by simp, by simp⟩ _).setCell ⟨by simp, by simp⟩ _).setCell ⟨by simp, by simp⟩ _).setCell ⟨by simp, by simp⟩ _).setCell ⟨by simp, by simp⟩ _)
        have hB' := hB.trans (hF.below (B := w.heap.size) (by omega) (by have := hB.size; omega))
        have k0 := (hR 0 _ rfl).1
        have k1 := (hR 1 _ rfl).1
        have k2 := (hR 2 _ rfl).1
        have k3 := (hR 3 _ rfl).1
        have k4 := (hR 4 _ rfl).1
        have f0 := (hR 0 _ rfl).2
        have f1 := (hR 1 _ rfl).2
        have f2 := (hR 2 _ rfl).2
        have f3 := (hR 3 _ rfl).2
        have f4 := (hR 4 _ rfl).2
        have x0 := (hR' 0 _ rfl).1
        have x1 := (hR' 1 _ rfl).1
        have x2 := (hR' 2 _ rfl).1
        have x3 := (hR' 3 _ rfl).1
        have x4 := (hR' 4 _ rfl).1
        go_wp2
        refine bodyPost_ret (by simp [results, Tryz.results31, go_sem, x0, x1, x2, x3, x4]; try rfl) rfl ?_
        exact ⟨A1, c1, A6, c6, A3, c3, A4, c4, A5, c5, rfl, hIE.fr hF (Nat.le_refl _) |>.lift (by omega), hB'⟩
  · go_simp
    have hbz : Below W0.heap.size W0 (W0.alloc (.cells #[.slice none 0 0, .slice none 0 0, .slice none 0 0] 26)) := (Below.refl _ _).alloc (Nat.le_refl _) _
    obtain ⟨pb, hpb⟩ : ∃ pb, pb = W0.heap.size := ⟨_, rfl⟩
    have hN1 := BN.new W0 #[.slice none 0 0, .slice none 0 0, .slice none 0 0] 26 pb hpb
    have hpw := hR0.lt (by simp)
    have hX1 := hX0.below (by simp) hbz
    have hR1 := hR0.below (by simp) hbz
    have hS1 := hS0.below hbz
    have hE1 := hE0.below hbz
    have hB1 := Below.on' hB0 hbz
    have hz1 := (hbz).size
    clear hX0 hR0 hS0 hE0 hB0
    refine hK.out _ _ ⟨(hX1 2 _ rfl).1, (hX1 3 _ rfl).1, (hX1 4 _ rfl).1⟩ (fun hHeld => ?_)
    clear hK K
    simp only [List.setIfInBounds_toArray, List.set_cons_zero, List.set_cons_succ]
    rw [← hpb]
    have hp1 : pb ≤ W0.heap.size := by omega
    have hp2 : W0.heap.size ≤ pb := by omega
    clear hpb
    generalize W0.alloc (.cells #[.slice none 0 0, .slice none 0 0, .slice none 0 0] 26) = V1 at hX1 hR1 hS1 hE1 hB1 hN1 hz1 hHeld ⊢
    refine wpAnyH_ready (rs := [4]) (by kernel_rfl) (by simp) ?_
    refine AllReadyH.consL rfl (fun K hK => ?_) AllReadyH.nil
    go_simp
    go_at_call 109
    refine (stBody_a st (stOk_in hs1).1 (by have := stOk_in hs1; omega) _).mono ?_
    rintro e V2 ⟨rfl, hb⟩
    have hX2 := hX1.below (by simp) hb
    have hR2 := hR1.below (by simp) hb
    have hS2 := hS1.below hb
    have hE2 := hE1.below hb
    have hB2 := Below.on' hB1 hb
    have hz2 := (hb).size
    have hN2 := hN1.below (by simp) hb
    clear hX1 hR1 hS1 hE1 hB1 hN1 hb
    go_simp
    refine hK.out _ _ ⟨(hX2 2 _ rfl).1, (hX2 3 _ rfl).1, (hX2 4 _ rfl).1⟩ (fun hHeld => ?_)
    clear hK K
    simp only [List.setIfInBounds_toArray, List.set_cons_zero, List.set_cons_succ]
    refine wpAnyH_ready (rs := [5]) (by kernel_rfl) (by simp) ?_
    refine AllReadyH.consL rfl (fun K hK => ?_) AllReadyH.nil
    have hpv := hR2.lt (by simp)
    have hpn := hN2.lt (by simp)
    go_simp
    go_at_call 108
    refine (SendMessage_spec As cs s Ar cr r Ah ch h nm (stT st) _ hE2.ls hE2.ms hE2.Ss hE2.ks hE2.lr hE2.mr hE2.Sr hE2.kr hE2.lh hE2.mh hE2.Sh hE2.kh hsn (size_st hs1)).mono ?_
    have hD := Lib.hid (show t = if (sndT s r h nm (stT st)).2 = true then ((f, n', (sndT s r h nm (stT st)).1.1, (sndT s r h nm (stT st)).1.2.1, (sndT s r h nm (stT st)).1.2.2), true) else enNo by rw [← hQ.out, hD0.out]; rfl)
    clear hD0 hQ
    generalize sndT s r h nm (stT st) = D at hD ⊢
    obtain ⟨⟨d1, d2, d3⟩, d⟩ := D
    rintro e V3 ⟨A3, c3, A4, c4, A5, c5, rfl, hI, hb⟩
    have hX3 := hX2.below (by simp) hb
    have hR3 := hR2.below (by simp) hb
    have hS3 := hS2.below hb
    have hE3 := hE2.below hb
    have hB3 := Below.on' hB2 hb
    have hz3 := (hb).size
    have hN3 := hN2.below (by simp) hb
    clear hX2 hR2 hS2 hE2 hB2 hN2 hb
    dsimp only
    go_simp
    refine hK.out _ _ ⟨(hX3 2 _ rfl).1, (hX3 3 _ rfl).1, (hX3 4 _ rfl).1⟩ (fun hHeld => ?_)
    clear hK K
    simp only [List.setIfInBounds_toArray, List.set_cons_zero, List.set_cons_succ]
    refine wpAnyH_takeL (i := 6) (v := .tuple #[.agg #[.slice A3 d1.length c3, .slice A4 d2.length c4, .slice A5 d3.length c5], .bool d]) rfl (by kernel_rfl) (by kernel_rfl) (by kernel_rfl) (fun _ _ _ h => h) (Or.inl ⟨by rfl, fun w' hSw => by obtain ⟨z2, z3, z4⟩ := hSw; go_simp⟩) ⟨(hX3 2 _ rfl).1, (hX3 3 _ rfl).1, (hX3 4 _ rfl).1⟩ ?_
    simp only [Act.put, List.setIfInBounds_toArray, List.set_cons_zero, List.set_cons_succ]
    refine wpAnyH_takeL (i := 7) (v := .agg #[.slice A3 d1.length c3, .slice A4 d2.length c4, .slice A5 d3.length c5]) rfl (by kernel_rfl) (by kernel_rfl) (by kernel_rfl) (fun _ _ _ h => h) (Or.inl ⟨by rfl, fun w' hSw => by obtain ⟨z2, z3, z4⟩ := hSw; go_simp⟩) ⟨(hX3 2 _ rfl).1, (hX3 3 _ rfl).1, (hX3 4 _ rfl).1⟩ ?_
    simp only [Act.put, List.setIfInBounds_toArray, List.set_cons_zero, List.set_cons_succ]
    refine wpAnyH_takeL (i := 8) (v := .bool d) rfl (by kernel_rfl) (by kernel_rfl) (by kernel_rfl) (fun _ _ _ h => h) (Or.inl ⟨by rfl, fun w' hSw => by obtain ⟨z2, z3, z4⟩ := hSw; go_simp⟩) ⟨(hX3 2 _ rfl).1, (hX3 3 _ rfl).1, (hX3 4 _ rfl).1⟩ ?_
    simp only [Act.put, List.setIfInBounds_toArray, List.set_cons_zero, List.set_cons_succ]
    refine wpAnyH_ready (rs := [10]) (by kernel_rfl) (by simp) ?_
    refine AllReadyH.consL rfl (fun K hK => ?_) AllReadyH.nil
    have n0 := (hN3 0 _ rfl).1
    have m0 := (hN3 0 _ rfl).2
    have n1 := (hN3 1 _ rfl).1
    have m1 := (hN3 1 _ rfl).2
    have n2 := (hN3 2 _ rfl).1
    have m2 := (hN3 2 _ rfl).2
    have hpl := hN3.lt (by simp)
    go_simp
    have hY := (((hN3.put (i := 0) rfl (.slice A3 d1.length c3)).put (i := 1) rfl (.slice A4 d2.length c4)).put (i := 2) rfl (.slice A5 d3.length c5))
    have hF5 : Fr pb (pb + 1) V3 (((V3.setCell ⟨pb, 0, none⟩ (.slice A3 d1.length c3)).setCell ⟨pb, 1, none⟩ (.slice A4 d2.length c4)).setCell ⟨pb, 2, none⟩ (.slice A5 d3.length c5)) := ((((Fr.refl _ _ _).setCell ⟨by simp, by simp⟩ _).setCell ⟨by simp, by simp⟩ _).setCell ⟨by simp, by simp⟩ _)
    have hX9 := hX3.same (hF5.block w.heap.size (by have := hX3.lt (by simp); omega) (by omega))
    have hR := hR3.same (hF5.block (w.heap.size + 1) (by have := hR3.lt (by simp); omega) (by omega))
    have hS2 := hS3.fr hF5 (by omega)
    have hB := hB3.trans (hF5.below (B := w.heap.size) (by omega) (by have := hB3.size; omega))
    have hE := hEw.below hB
    have hI' := hI.fr hF5 (by omega) (b0 := w.heap.size + 2) (by omega)
    have hz9 := hF5.size
    have hBs := hB.size
    refine hK.out _ _ ⟨(hX9 2 _ rfl).1, (hX9 3 _ rfl).1, (hX9 4 _ rfl).1⟩ (fun hHeld => ?_)
    clear hK K
    simp only [List.setIfInBounds_toArray, List.set_cons_zero, List.set_cons_succ]
    clear hX3 hR3 hS3 hE3 hB3 hN3 n0 n1 n2 m0 m1 m2 hF5 hI
    generalize (((V3.setCell ⟨pb, 0, none⟩ (.slice A3 d1.length c3)).setCell ⟨pb, 1, none⟩ (.slice A4 d2.length c4)).setCell ⟨pb, 2, none⟩ (.slice A5 d3.length c5)) = w5 at hY hX9 hR hS2 hE hB hI' hz9 hBs hHeld ⊢
    refine wpAnyH_takeL (i := 11) (v := .bool d) rfl (by kernel_rfl) (by kernel_rfl) (by kernel_rfl) (fun _ _ _ h => h) (Or.inl ⟨by rfl, fun w' hSw => by obtain ⟨z2, z3, z4⟩ := hSw; go_simp⟩) ⟨(hX9 2 _ rfl).1, (hX9 3 _ rfl).1, (hX9 4 _ rfl).1⟩ ?_
    simp only [Act.put, List.setIfInBounds_toArray, List.set_cons_zero, List.set_cons_succ]
    refine wpAnyH_done (by kernel_rfl) ?_ _
    have y0 := (hY 0 _ rfl).1
    have y1 := (hY 1 _ rfl).1
    have y2 := (hY 2 _ rfl).1
    have b0 := (hX9 0 _ rfl).1
    have b1 := (hX9 1 _ rfl).1
    have b2 := (hX9 2 _ rfl).1
    have b3 := (hX9 3 _ rfl).1
    have b4 := (hX9 4 _ rfl).1
    cases d with
    | false =>
      obtain rfl : t = enNo := hD.out
      dsimp only at hD ⊢
      clear hD
      have hR' := (((((hR.put (i := 0) rfl (.slice none 0 0)).put (i := 1) rfl (.slice none 0 0)).put (i := 2) rfl (.slice none 0 0)).put (i := 3) rfl (.slice none 0 0)).put (i := 4) rfl (.slice none 0 0))
      have hF : Fr ((w.heap.size + 1)) ((w.heap.size + 1) + 1) w5 (((((w5.setCell ⟨(w.heap.size + 1), 0, none⟩ (.slice none 0 0)).setCell ⟨(w.heap.size + 1), 1, none⟩ (.slice none 0 0)).setCell ⟨(w.heap.size + 1), 2, none⟩ (.slice none 0 0)).setCell ⟨(w.heap.size + 1), 3, none⟩ (.slice none 0 0)).setCell ⟨(w.heap.size + 1), 4, none⟩ (.slice none 0 0)) := ((((((Fr.refl _ _ _).setCell ⟨by simp, by simp⟩ _).setCell ⟨by simp, by simp⟩ _).setCell ⟨by simp, by simp⟩ _).setCell ⟨by simp, by simp⟩ _).setCell ⟨by simp, by simp⟩ _)
      have hB' := hB.trans (hF.below (B := w.heap.size) (by omega) (by have := hB.size; omega))
      have k0 := (hR 0 _ rfl).1
      have k1 := (hR 1 _ rfl).1
      have k2 := (hR 2 _ rfl).1
      have k3 := (hR 3 _ rfl).1
      have k4 := (hR 4 _ rfl).1
      have f0 := (hR 0 _ rfl).2
      have f1 := (hR 1 _ rfl).2
      have f2 := (hR 2 _ rfl).2
      have f3 := (hR 3 _ rfl).2
      have f4 := (hR 4 _ rfl).2
      have x0 := (hR' 0 _ rfl).1
      have x1 := (hR' 1 _ rfl).1
      have x2 := (hR' 2 _ rfl).1
      have x3 := (hR' 3 _ rfl).1
      have x4 := (hR' 4 _ rfl).1
      go_wp2
      refine bodyPost_ret (by simp [results, Tryz.results31, go_sem, x0, x1, x2, x3, x4]; try rfl) rfl ?_
      exact ⟨none, 0, none, 0, none, 0, none, 0, none, 0, rfl, IntE.nil_ hB'.size, hB'⟩
    | true =>
      obtain rfl : t = ((f, n', d1, d2, d3), true) := hD.out
      clear hD
      go_wp2_with fail
      refine (stWith_any Af cf f (.slice An n.length cn) (.slice As s.length cs) (.slice Ar r.length cr) (.slice Ah h.length ch) A2 c2 n' A3 d1.length c3 A4 d2.length c4 A5 d3.length c5 _ hE.lf hE.Sf hl2 hS2.all).mono ?_
      rintro e w6 ⟨A1, c1, A6, c6, rfl, hF, hb⟩
      have hIE := IntE.of_f hF hI' hb (by omega)
      replace hR := hR.below (by simp) hb
      replace hB := Below.on' hB hb
      have hz3 := hB.size
      have hlt := hR.lt (by simp)
      clear b0 b1 b2 b3 b4 y0 y1 y2 hb hF
      have hR' := (((((hR.put (i := 0) rfl (.slice A1 f.length c1)).put (i := 1) rfl (.slice A6 n'.length c6)).put (i := 2) rfl (.slice A3 d1.length c3)).put (i := 3) rfl (.slice A4 d2.length c4)).put (i := 4) rfl (.slice A5 d3.length c5))
      have hF : Fr ((w.heap.size + 1)) ((w.heap.size + 1) + 1) w6 (((((w6.setCell ⟨(w.heap.size + 1), 0, none⟩ (.slice A1 f.length c1)).setCell ⟨(w.heap.size + 1), 1, none⟩ (.slice A6 n'.length c6)).setCell ⟨(w.heap.size + 1), 2, none⟩ (.slice A3 d1.length c3)).setCell ⟨(w.heap.size + 1), 3, none⟩ (.slice A4 d2.length c4)).setCell ⟨(w.heap.size + 1), 4, none⟩ (.slice A5 d3.length c5)) := ((((((Fr.refl _ _ _).setCell ⟨by simp, by simp⟩ _).setCell ⟨by simp, by simp⟩ _).setCell ⟨by simp, by simp⟩ _).setCell ⟨by simp, by simp⟩ _).setCell ⟨by simp, by simp⟩ _)
      have hB' := hB.trans (hF.below (B := w.heap.size) (by omega) (by have := hB.size; omega))
      have k0 := (hR 0 _ rfl).1
      have k1 := (hR 1 _ rfl).1
      have k2 := (hR 2 _ rfl).1
      have k3 := (hR 3 _ rfl).1
      have k4 := (hR 4 _ rfl).1
      have f0 := (hR 0 _ rfl).2
      have f1 := (hR 1 _ rfl).2
      have f2 := (hR 2 _ rfl).2
      have f3 := (hR 3 _ rfl).2
      have f4 := (hR 4 _ rfl).2
      have x0 := (hR' 0 _ rfl).1
      have x1 := (hR' 1 _ rfl).1
      have x2 := (hR' 2 _ rfl).1
      have x3 := (hR' 3 _ rfl).1
      have x4 := (hR' 4 _ rfl).1
      go_wp2
      refine bodyPost_ret (by simp [results, Tryz.results31, go_sem, x0, x1, x2, x3, x4]; try rfl) rfl ?_
      exact ⟨A1, c1, A6, c6, A3, c3, A4, c4, A5, c5, rfl, hIE.fr hF (Nat.le_refl _) |>.lift (by omega), hB'⟩
end Go.Proofs.YtjmjilkpckbpeaaGreatDoor

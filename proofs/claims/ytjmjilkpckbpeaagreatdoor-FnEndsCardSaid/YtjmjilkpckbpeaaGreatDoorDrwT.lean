/- The Draw functions over ends, for FnEnds: what they return, and that older blocks stay. No conditions. -/
import Derived.Test.YtjmjilkpckbpeaaGreatDoorDrwP
namespace Go.Proofs.YtjmjilkpckbpeaaGreatDoor
open Go.RowKit

set_option maxRecDepth 100000 in
set_option maxHeartbeats 40000000 in
theorem DrawTellState_any (A : Option Addr) (c : Nat) (l : List Int) (w : World) (hl : l.length ≤ maxLen) (hm : ∀ x ∈ l, 0 ≤ x ∧ x ≤ 255) (hS : Sl byE 1 w 0 w.heap.size A l) :
    Calls Tryz.prog 29 #[.slice A l.length c] w fun e w' => ∃ (A1 : Option Addr) (c1 : Nat) (f : List App) (A2 : Option Addr) (c2 : Nat) (n : List App) (A3 : Option Addr) (c3 : Nat) (s : List Msg) (A4 : Option Addr) (c4 : Nat) (r : List Msg) (A5 : Option Addr) (c5 : Nat) (h : List Msg) (nm : ByteArray) (v : Int), e = .returned (.tuple #[.agg #[.slice A1 f.length c1, .slice A2 n.length c2, .slice A3 s.length c3, .slice A4 r.length c4, .slice A5 h.length c5], .string nm, .int .i64 v]) ∧ nm.size ≤ 1048576 ∧ ED w.heap.size w' A1 c1 f A2 c2 n A3 c3 s A4 c4 r A5 c5 h ∧ Below w.heap.size w w' := by
  have hS0 := (hS.alloc (.cells #[.slice none 0 0, .slice none 0 0, .slice none 0 0, .slice none 0 0, .slice none 0 0] 52)).all
  have hC0 := Cur.new (w.alloc (.cells #[.slice none 0 0, .slice none 0 0, .slice none 0 0, .slice none 0 0, .slice none 0 0] 52)) A c l 86 (w.heap.size + 1) (by simp) hS0 hm hl
  have hR : BN w.heap.size [.slice none 0 0, .slice none 0 0, .slice none 0 0, .slice none 0 0, .slice none 0 0] ((w.alloc (.cells #[.slice none 0 0, .slice none 0 0, .slice none 0 0, .slice none 0 0, .slice none 0 0] 52)).alloc (.cells #[.slice A l.length c, .int .i64 0, .int .u64 0] 86)) := (BN.new w #[.slice none 0 0, .slice none 0 0, .slice none 0 0, .slice none 0 0, .slice none 0 0] 52 w.heap.size rfl).below (by simp) ((Below.refl _ _).alloc (Nat.le_refl _) (.cells #[.slice A l.length c, .int .i64 0, .int .u64 0] 86))
  have hB : Below w.heap.size w ((w.alloc (.cells #[.slice none 0 0, .slice none 0 0, .slice none 0 0, .slice none 0 0, .slice none 0 0] 52)).alloc (.cells #[.slice A l.length c, .int .i64 0, .int .u64 0] 86)) := by go_grown
  have hz : w.heap.size + 2 ≤ ((w.alloc (.cells #[.slice none 0 0, .slice none 0 0, .slice none 0 0, .slice none 0 0, .slice none 0 0] 52)).alloc (.cells #[.slice A l.length c, .int .i64 0, .int .u64 0] 86)).heap.size := by simp
  clear hS0 hl hm
  go_enter Tryz.func29, Tryz.ntmps29
  go_wp2_with fail
  refine (ends_any (w.heap.size + 1) A c l 0 _ hC0 (by omega)).mono ?_
  rintro e w1 ⟨A1, c1, f, A2, c2, n, A3, c3, s, A4, c4, r, A5, c5, h, rfl, hE, hC1, hFn⟩
  replace hE := hE.lift hz
  replace hR := hR.fr hFn (by simp) (.inl (by omega))
  replace hB := hB.trans (hFn.below (B := w.heap.size) (by omega) hB.size)
  replace hz := Nat.le_trans hz hFn.size
  clear hFn hC0
  have hcd : Sl byE 1 w1 0 w.heap.size A l := hS.keep (fun b _ hb => hB.block b hb) hB.size
  have q : RE w w1.heap.size A c l 700 A1 c1 f A2 c2 n A3 c3 s A4 c4 r A5 c5 h [.slice none 0 0, .slice none 0 0, .slice none 0 0, .slice none 0 0, .slice none 0 0] (w1.alloc (.cells #[.slice A1 f.length c1, .slice A2 n.length c2, .slice A3 s.length c3, .slice A4 r.length c4, .slice A5 h.length c5] 52)) := ⟨BN.new w1 #[.slice A1 f.length c1, .slice A2 n.length c2, .slice A3 s.length c3, .slice A4 r.length c4, .slice A5 h.length c5] 52 _ rfl, hE.eh.below ((Below.refl _ _).alloc (Nat.le_refl _) _), hR.below (by simp) ((Below.refl _ _).alloc (Nat.le_refl _) _), (hC1.more (by omega)).alloc _, hcd.keep (fun b _ hb => ((Below.refl w1.heap.size w1).alloc (Nat.le_refl _) _).block b (by omega)) (by simp), hB.alloc hB.size _, hz⟩
  clear hcd hE hR hC1 hB hS
  have hnl := q.e.nl
  have b0 := (q.x 0 _ rfl).1
  have b1 := (q.x 1 _ rfl).1
  have b2 := (q.x 2 _ rfl).1
  have b3 := (q.x 3 _ rfl).1
  have b4 := (q.x 4 _ rfl).1
  by_cases h0 : 0 < n.length
  rotate_left
  · have h0' : ¬ (0 : Int) < n.length := by omega
    go_upto_region 8 with fail
    clear b0 b1 b2 b3 b4
    generalize w1.heap.size = bx at q ⊢
    generalize w1.alloc (.cells #[.slice A1 f.length c1, .slice A2 n.length c2, .slice A3 s.length c3, .slice A4 r.length c4, .slice A5 h.length c5] 52) = w1B at q ⊢
    have q1_ := q.below (by simp) (Below.refl _ _).drew
    refine wp_region_held_drew (S := (fun w' => w'.cell? ⟨bx, 0, none⟩ = some (.slice A1 f.length c1) ∧ w'.cell? ⟨bx, 1, none⟩ = some (.slice A2 n.length c2) ∧ w'.cell? ⟨bx, 2, none⟩ = some (.slice A3 s.length c3) ∧ w'.cell? ⟨bx, 3, none⟩ = some (.slice A4 r.length c4) ∧ w'.cell? ⟨bx, 4, none⟩ = some (.slice A5 h.length c5))) (by kernel_rfl) ⟨(q1_.x 0 _ rfl).1, (q1_.x 1 _ rfl).1, (q1_.x 2 _ rfl).1, (q1_.x 3 _ rfl).1, (q1_.x 4 _ rfl).1⟩ (fun hHeld => ?_)
    clear hHeld q
    generalize w1B.drew = V0 at q1_ ⊢
    have q0 := q1_
    clear q1_
    change wpAnyH _ _ _ _ _ 10 #[false, false, false, false, false, false, false, false, false, false] _ _
    refine wpAnyH_takeL (i := 0) (v := .agg #[.slice A1 f.length c1, .slice A2 n.length c2, .slice A3 s.length c3, .slice A4 r.length c4, .slice A5 h.length c5]) rfl (by kernel_rfl) (by kernel_rfl) (by kernel_rfl) (fun _ _ _ h => h) (Or.inl ⟨by rfl, fun w' hSw => by obtain ⟨z0, z1, z2, z3, z4⟩ := hSw; go_simp⟩) ⟨(q0.x 0 _ rfl).1, (q0.x 1 _ rfl).1, (q0.x 2 _ rfl).1, (q0.x 3 _ rfl).1, (q0.x 4 _ rfl).1⟩ ?_
    simp only [Act.put, List.setIfInBounds_toArray, List.set_cons_zero, List.set_cons_succ]
    refine wpAnyH_takeL (i := 1) (v := .pointer (some ⟨w.heap.size + 1, 0, none⟩)) rfl (by kernel_rfl) (by kernel_rfl) (by kernel_rfl) (fun _ _ _ h => h) (Or.inl ⟨by rfl, fun w' hSw => by obtain ⟨z0, z1, z2, z3, z4⟩ := hSw; go_simp⟩) ⟨(q0.x 0 _ rfl).1, (q0.x 1 _ rfl).1, (q0.x 2 _ rfl).1, (q0.x 3 _ rfl).1, (q0.x 4 _ rfl).1⟩ ?_
    simp only [Act.put, List.setIfInBounds_toArray, List.set_cons_zero, List.set_cons_succ]
    refine wpAnyH_takeL (i := 2) (v := .pointer (some ⟨bx, 1, none⟩)) rfl (by kernel_rfl) (by kernel_rfl) (by kernel_rfl) (fun _ _ _ h => h) (Or.inl ⟨by rfl, fun w' hSw => by obtain ⟨z0, z1, z2, z3, z4⟩ := hSw; go_simp⟩) ⟨(q0.x 0 _ rfl).1, (q0.x 1 _ rfl).1, (q0.x 2 _ rfl).1, (q0.x 3 _ rfl).1, (q0.x 4 _ rfl).1⟩ ?_
    simp only [Act.put, List.setIfInBounds_toArray, List.set_cons_zero, List.set_cons_succ]
    refine wpAnyH_takeL (i := 3) (v := .slice A2 n.length c2) rfl (by kernel_rfl) (by kernel_rfl) (by kernel_rfl) (fun _ _ _ h => h) (Or.inl ⟨by rfl, fun w' hSw => by obtain ⟨z0, z1, z2, z3, z4⟩ := hSw; go_simp⟩) ⟨(q0.x 0 _ rfl).1, (q0.x 1 _ rfl).1, (q0.x 2 _ rfl).1, (q0.x 3 _ rfl).1, (q0.x 4 _ rfl).1⟩ ?_
    simp only [Act.put, List.setIfInBounds_toArray, List.set_cons_zero, List.set_cons_succ]
    refine wpAnyH_takeL (i := 5) (v := .pointer (some ⟨w.heap.size + 1, 0, none⟩)) rfl (by kernel_rfl) (by kernel_rfl) (by kernel_rfl) (fun _ _ _ h => h) (Or.inl ⟨by rfl, fun w' hSw => by obtain ⟨z0, z1, z2, z3, z4⟩ := hSw; go_simp⟩) ⟨(q0.x 0 _ rfl).1, (q0.x 1 _ rfl).1, (q0.x 2 _ rfl).1, (q0.x 3 _ rfl).1, (q0.x 4 _ rfl).1⟩ ?_
    simp only [Act.put, List.setIfInBounds_toArray, List.set_cons_zero, List.set_cons_succ]
    refine wpAnyH_ready (rs := [4]) (by kernel_rfl) (by simp) ?_
    refine AllReadyH.consL rfl (fun K hK => ?_) AllReadyH.nil
    go_simp
    refine (nameIn_any (w.heap.size + 1) A c l 700 A2 c2 n (w.heap.size + 2) _ _ q0.cur (by omega) q0.e.ea.ln q0.e.ea.mn q0.e.S2 (.inr (by omega))).mono ?_
    rintro e V1 ⟨nm, hnm, rfl, hC1, hFn⟩
    have q1 := q0.step (by simp) hFn hC1
    clear hFn hC1 q0
    go_simp
    refine hK.out _ _ ⟨(q1.x 0 _ rfl).1, (q1.x 1 _ rfl).1, (q1.x 2 _ rfl).1, (q1.x 3 _ rfl).1, (q1.x 4 _ rfl).1⟩ (fun _ => ?_)
    clear hK K
    simp only [List.setIfInBounds_toArray, List.set_cons_zero, List.set_cons_succ]
    refine wpAnyH_ready (rs := [6]) (by kernel_rfl) (by simp) ?_
    refine AllReadyH.consL rfl (fun K hK => ?_) AllReadyH.nil
    go_simp
    refine (stateOf_any (w.heap.size + 1) A c l (700 + 4) _ q1.cur (by omega)).mono ?_
    rintro e V2 ⟨v, rfl, hC1, hFn⟩
    have q2 := q1.step (by simp) hFn hC1
    clear hFn hC1 q1
    go_simp
    refine hK.out _ _ ⟨(q2.x 0 _ rfl).1, (q2.x 1 _ rfl).1, (q2.x 2 _ rfl).1, (q2.x 3 _ rfl).1, (q2.x 4 _ rfl).1⟩ (fun _ => ?_)
    clear hK K
    simp only [List.setIfInBounds_toArray, List.set_cons_zero, List.set_cons_succ]
    refine wpAnyH_ready (rs := [7]) (by kernel_rfl) (by simp) ?_
    refine AllReadyH.consL rfl (fun K hK => ?_) AllReadyH.nil
    obtain ⟨k0_, f0_⟩ := q2.z 0 _ rfl
    obtain ⟨k1_, f1_⟩ := q2.z 1 _ rfl
    obtain ⟨k2_, f2_⟩ := q2.z 2 _ rfl
    obtain ⟨k3_, f3_⟩ := q2.z 3 _ rfl
    obtain ⟨k4_, f4_⟩ := q2.z 4 _ rfl
    go_simp
    clear k0_ f0_ k1_ f1_ k2_ f2_ k3_ f3_ k4_ f4_
    have q3 := q2.store
    refine hK.out _ _ ⟨(q3.x 0 _ rfl).1, (q3.x 1 _ rfl).1, (q3.x 2 _ rfl).1, (q3.x 3 _ rfl).1, (q3.x 4 _ rfl).1⟩ (fun _ => ?_)
    clear hK K
    simp only [List.setIfInBounds_toArray, List.set_cons_zero, List.set_cons_succ]
    clear q2
    generalize (((((V2.setCell ⟨w.heap.size, 0, none⟩ (.slice A1 f.length c1)).setCell ⟨w.heap.size, 1, none⟩ (.slice A2 n.length c2)).setCell ⟨w.heap.size, 2, none⟩ (.slice A3 s.length c3)).setCell ⟨w.heap.size, 3, none⟩ (.slice A4 r.length c4)).setCell ⟨w.heap.size, 4, none⟩ (.slice A5 h.length c5)) = V3 at q3 ⊢
    refine wpAnyH_takeL (i := 8) (v := .string nm) rfl (by kernel_rfl) (by kernel_rfl) (by kernel_rfl) (fun _ _ _ h => h) (Or.inl ⟨by rfl, fun w' hSw => by obtain ⟨z0, z1, z2, z3, z4⟩ := hSw; go_simp⟩) ⟨(q3.x 0 _ rfl).1, (q3.x 1 _ rfl).1, (q3.x 2 _ rfl).1, (q3.x 3 _ rfl).1, (q3.x 4 _ rfl).1⟩ ?_
    simp only [Act.put, List.setIfInBounds_toArray, List.set_cons_zero, List.set_cons_succ]
    refine wpAnyH_takeL (i := 9) (v := .int .i64 v) rfl (by kernel_rfl) (by kernel_rfl) (by kernel_rfl) (fun _ _ _ h => h) (Or.inl ⟨by rfl, fun w' hSw => by obtain ⟨z0, z1, z2, z3, z4⟩ := hSw; go_simp⟩) ⟨(q3.x 0 _ rfl).1, (q3.x 1 _ rfl).1, (q3.x 2 _ rfl).1, (q3.x 3 _ rfl).1, (q3.x 4 _ rfl).1⟩ ?_
    simp only [Act.put, List.setIfInBounds_toArray, List.set_cons_zero, List.set_cons_succ]
    refine wpAnyH_done (by kernel_rfl) ?_ _
    have z0 := (q3.z 0 _ rfl).1
    have z1 := (q3.z 1 _ rfl).1
    have z2 := (q3.z 2 _ rfl).1
    have z3 := (q3.z 3 _ rfl).1
    have z4 := (q3.z 4 _ rfl).1
    go_wp2
    refine bodyPost_ret (by simp [results, Tryz.results29, go_sem, z0, z1, z2, z3, z4]; try rfl) rfl ?_
    exact ⟨A1, c1, f, A2, c2, n, A3, c3, s, A4, c4, r, A5, c5, h, nm, v, rfl, hnm, q3.e.ed.lift (by omega), q3.b⟩
  have h0' : (0 : Int) < n.length := by omega
  go_wp2_with fail
  generalize w1.heap.size = bx at q b0 b1 b2 b3 b4 ⊢
  refine (one_any (w.heap.size + 1) A c l 700 2 _ q.cur (by omega) (by omega)).mono ?_
  rintro e w2 ⟨_, rfl, ⟨b, rfl⟩, hC1, hFn⟩
  clear b0 b1 b2 b3 b4
  replace q := q.step (by simp) hFn hC1
  clear hFn hC1
  cases b with
  | false =>
    go_upto_region 8 with fail
    have q1_ := q.below (by simp) (Below.refl _ _).drew
    refine wp_region_held_drew (S := (fun w' => w'.cell? ⟨bx, 0, none⟩ = some (.slice A1 f.length c1) ∧ w'.cell? ⟨bx, 1, none⟩ = some (.slice A2 n.length c2) ∧ w'.cell? ⟨bx, 2, none⟩ = some (.slice A3 s.length c3) ∧ w'.cell? ⟨bx, 3, none⟩ = some (.slice A4 r.length c4) ∧ w'.cell? ⟨bx, 4, none⟩ = some (.slice A5 h.length c5))) (by kernel_rfl) ⟨(q1_.x 0 _ rfl).1, (q1_.x 1 _ rfl).1, (q1_.x 2 _ rfl).1, (q1_.x 3 _ rfl).1, (q1_.x 4 _ rfl).1⟩ (fun hHeld => ?_)
    clear hHeld q
    generalize w2.drew = V0 at q1_ ⊢
    have q0 := q1_
    clear q1_
    change wpAnyH _ _ _ _ _ 10 #[false, false, false, false, false, false, false, false, false, false] _ _
    refine wpAnyH_takeL (i := 0) (v := .agg #[.slice A1 f.length c1, .slice A2 n.length c2, .slice A3 s.length c3, .slice A4 r.length c4, .slice A5 h.length c5]) rfl (by kernel_rfl) (by kernel_rfl) (by kernel_rfl) (fun _ _ _ h => h) (Or.inl ⟨by rfl, fun w' hSw => by obtain ⟨z0, z1, z2, z3, z4⟩ := hSw; go_simp⟩) ⟨(q0.x 0 _ rfl).1, (q0.x 1 _ rfl).1, (q0.x 2 _ rfl).1, (q0.x 3 _ rfl).1, (q0.x 4 _ rfl).1⟩ ?_
    simp only [Act.put, List.setIfInBounds_toArray, List.set_cons_zero, List.set_cons_succ]
    refine wpAnyH_takeL (i := 1) (v := .pointer (some ⟨w.heap.size + 1, 0, none⟩)) rfl (by kernel_rfl) (by kernel_rfl) (by kernel_rfl) (fun _ _ _ h => h) (Or.inl ⟨by rfl, fun w' hSw => by obtain ⟨z0, z1, z2, z3, z4⟩ := hSw; go_simp⟩) ⟨(q0.x 0 _ rfl).1, (q0.x 1 _ rfl).1, (q0.x 2 _ rfl).1, (q0.x 3 _ rfl).1, (q0.x 4 _ rfl).1⟩ ?_
    simp only [Act.put, List.setIfInBounds_toArray, List.set_cons_zero, List.set_cons_succ]
    refine wpAnyH_takeL (i := 2) (v := .pointer (some ⟨bx, 1, none⟩)) rfl (by kernel_rfl) (by kernel_rfl) (by kernel_rfl) (fun _ _ _ h => h) (Or.inl ⟨by rfl, fun w' hSw => by obtain ⟨z0, z1, z2, z3, z4⟩ := hSw; go_simp⟩) ⟨(q0.x 0 _ rfl).1, (q0.x 1 _ rfl).1, (q0.x 2 _ rfl).1, (q0.x 3 _ rfl).1, (q0.x 4 _ rfl).1⟩ ?_
    simp only [Act.put, List.setIfInBounds_toArray, List.set_cons_zero, List.set_cons_succ]
    refine wpAnyH_takeL (i := 3) (v := .slice A2 n.length c2) rfl (by kernel_rfl) (by kernel_rfl) (by kernel_rfl) (fun _ _ _ h => h) (Or.inl ⟨by rfl, fun w' hSw => by obtain ⟨z0, z1, z2, z3, z4⟩ := hSw; go_simp⟩) ⟨(q0.x 0 _ rfl).1, (q0.x 1 _ rfl).1, (q0.x 2 _ rfl).1, (q0.x 3 _ rfl).1, (q0.x 4 _ rfl).1⟩ ?_
    simp only [Act.put, List.setIfInBounds_toArray, List.set_cons_zero, List.set_cons_succ]
    refine wpAnyH_takeL (i := 5) (v := .pointer (some ⟨w.heap.size + 1, 0, none⟩)) rfl (by kernel_rfl) (by kernel_rfl) (by kernel_rfl) (fun _ _ _ h => h) (Or.inl ⟨by rfl, fun w' hSw => by obtain ⟨z0, z1, z2, z3, z4⟩ := hSw; go_simp⟩) ⟨(q0.x 0 _ rfl).1, (q0.x 1 _ rfl).1, (q0.x 2 _ rfl).1, (q0.x 3 _ rfl).1, (q0.x 4 _ rfl).1⟩ ?_
    simp only [Act.put, List.setIfInBounds_toArray, List.set_cons_zero, List.set_cons_succ]
    refine wpAnyH_ready (rs := [4]) (by kernel_rfl) (by simp) ?_
    refine AllReadyH.consL rfl (fun K hK => ?_) AllReadyH.nil
    go_simp
    refine (nameIn_any (w.heap.size + 1) A c l (700 + 2) A2 c2 n (w.heap.size + 2) _ _ q0.cur (by omega) q0.e.ea.ln q0.e.ea.mn q0.e.S2 (.inr (by omega))).mono ?_
    rintro e V1 ⟨nm, hnm, rfl, hC1, hFn⟩
    have q1 := q0.step (by simp) hFn hC1
    clear hFn hC1 q0
    go_simp
    refine hK.out _ _ ⟨(q1.x 0 _ rfl).1, (q1.x 1 _ rfl).1, (q1.x 2 _ rfl).1, (q1.x 3 _ rfl).1, (q1.x 4 _ rfl).1⟩ (fun _ => ?_)
    clear hK K
    simp only [List.setIfInBounds_toArray, List.set_cons_zero, List.set_cons_succ]
    refine wpAnyH_ready (rs := [6]) (by kernel_rfl) (by simp) ?_
    refine AllReadyH.consL rfl (fun K hK => ?_) AllReadyH.nil
    go_simp
    refine (stateOf_any (w.heap.size + 1) A c l ((700 + 2) + 4) _ q1.cur (by omega)).mono ?_
    rintro e V2 ⟨v, rfl, hC1, hFn⟩
    have q2 := q1.step (by simp) hFn hC1
    clear hFn hC1 q1
    go_simp
    refine hK.out _ _ ⟨(q2.x 0 _ rfl).1, (q2.x 1 _ rfl).1, (q2.x 2 _ rfl).1, (q2.x 3 _ rfl).1, (q2.x 4 _ rfl).1⟩ (fun _ => ?_)
    clear hK K
    simp only [List.setIfInBounds_toArray, List.set_cons_zero, List.set_cons_succ]
    refine wpAnyH_ready (rs := [7]) (by kernel_rfl) (by simp) ?_
    refine AllReadyH.consL rfl (fun K hK => ?_) AllReadyH.nil
    obtain ⟨k0_, f0_⟩ := q2.z 0 _ rfl
    obtain ⟨k1_, f1_⟩ := q2.z 1 _ rfl
    obtain ⟨k2_, f2_⟩ := q2.z 2 _ rfl
    obtain ⟨k3_, f3_⟩ := q2.z 3 _ rfl
    obtain ⟨k4_, f4_⟩ := q2.z 4 _ rfl
    go_simp
    clear k0_ f0_ k1_ f1_ k2_ f2_ k3_ f3_ k4_ f4_
    have q3 := q2.store
    refine hK.out _ _ ⟨(q3.x 0 _ rfl).1, (q3.x 1 _ rfl).1, (q3.x 2 _ rfl).1, (q3.x 3 _ rfl).1, (q3.x 4 _ rfl).1⟩ (fun _ => ?_)
    clear hK K
    simp only [List.setIfInBounds_toArray, List.set_cons_zero, List.set_cons_succ]
    clear q2
    generalize (((((V2.setCell ⟨w.heap.size, 0, none⟩ (.slice A1 f.length c1)).setCell ⟨w.heap.size, 1, none⟩ (.slice A2 n.length c2)).setCell ⟨w.heap.size, 2, none⟩ (.slice A3 s.length c3)).setCell ⟨w.heap.size, 3, none⟩ (.slice A4 r.length c4)).setCell ⟨w.heap.size, 4, none⟩ (.slice A5 h.length c5)) = V3 at q3 ⊢
    refine wpAnyH_takeL (i := 8) (v := .string nm) rfl (by kernel_rfl) (by kernel_rfl) (by kernel_rfl) (fun _ _ _ h => h) (Or.inl ⟨by rfl, fun w' hSw => by obtain ⟨z0, z1, z2, z3, z4⟩ := hSw; go_simp⟩) ⟨(q3.x 0 _ rfl).1, (q3.x 1 _ rfl).1, (q3.x 2 _ rfl).1, (q3.x 3 _ rfl).1, (q3.x 4 _ rfl).1⟩ ?_
    simp only [Act.put, List.setIfInBounds_toArray, List.set_cons_zero, List.set_cons_succ]
    refine wpAnyH_takeL (i := 9) (v := .int .i64 v) rfl (by kernel_rfl) (by kernel_rfl) (by kernel_rfl) (fun _ _ _ h => h) (Or.inl ⟨by rfl, fun w' hSw => by obtain ⟨z0, z1, z2, z3, z4⟩ := hSw; go_simp⟩) ⟨(q3.x 0 _ rfl).1, (q3.x 1 _ rfl).1, (q3.x 2 _ rfl).1, (q3.x 3 _ rfl).1, (q3.x 4 _ rfl).1⟩ ?_
    simp only [Act.put, List.setIfInBounds_toArray, List.set_cons_zero, List.set_cons_succ]
    refine wpAnyH_done (by kernel_rfl) ?_ _
    have z0 := (q3.z 0 _ rfl).1
    have z1 := (q3.z 1 _ rfl).1
    have z2 := (q3.z 2 _ rfl).1
    have z3 := (q3.z 3 _ rfl).1
    have z4 := (q3.z 4 _ rfl).1
    go_wp2
    refine bodyPost_ret (by simp [results, Tryz.results29, go_sem, z0, z1, z2, z3, z4]; try rfl) rfl ?_
    exact ⟨A1, c1, f, A2, c2, n, A3, c3, s, A4, c4, r, A5, c5, h, nm, v, rfl, hnm, q3.e.ed.lift (by omega), q3.b⟩
  | true =>
    go_upto_region 5 with fail
    obtain ⟨y0, hy0, hym0⟩ := get_lt h0
    obtain ⟨ab, ao, rfl, _, _, _, _⟩ := q.e.S2.at_ hy0
    clear hy0 hym0
    have hmn := q.e.ea.mn
    have q1_ := q.below (by simp) (Below.refl _ _).drew
    refine wp_region_held_drew (S := (fun w' => w'.cell? ⟨bx, 0, none⟩ = some (.slice A1 f.length c1) ∧ w'.cell? ⟨bx, 1, none⟩ = some (.slice (some ⟨ab, ao, none⟩) n.length c2) ∧ w'.cell? ⟨bx, 2, none⟩ = some (.slice A3 s.length c3) ∧ w'.cell? ⟨bx, 3, none⟩ = some (.slice A4 r.length c4) ∧ w'.cell? ⟨bx, 4, none⟩ = some (.slice A5 h.length c5) ∧ Apps w' (w.heap.size + 2) bx (some ⟨ab, ao, none⟩) n)) (by kernel_rfl) ⟨(q1_.x 0 _ rfl).1, (q1_.x 1 _ rfl).1, (q1_.x 2 _ rfl).1, (q1_.x 3 _ rfl).1, (q1_.x 4 _ rfl).1, q1_.e.S2⟩ (fun hHeld => ?_)
    clear hHeld q
    generalize w2.drew = V0 at q1_ ⊢
    have q0 := q1_
    clear q1_
    change wpAnyH _ _ _ _ _ 9 #[false, false, false, false, false, false, false, false, false] _ _
    refine wpAnyH_takeL (i := 0) (v := .pointer (some ⟨bx, 1, none⟩)) rfl (by kernel_rfl) (by kernel_rfl) (by kernel_rfl) (fun _ _ _ h => h) (Or.inl ⟨by rfl, fun w' hSw => by obtain ⟨z0, z1, z2, z3, z4, zl⟩ := hSw; go_simp⟩) ⟨(q0.x 0 _ rfl).1, (q0.x 1 _ rfl).1, (q0.x 2 _ rfl).1, (q0.x 3 _ rfl).1, (q0.x 4 _ rfl).1, q0.e.S2⟩ ?_
    simp only [Act.put, List.setIfInBounds_toArray, List.set_cons_zero, List.set_cons_succ]
    refine wpAnyH_takeL (i := 1) (v := .slice (some ⟨ab, ao, none⟩) n.length c2) rfl (by kernel_rfl) (by kernel_rfl) (by kernel_rfl) (fun _ _ _ h => h) (Or.inl ⟨by rfl, fun w' hSw => by obtain ⟨z0, z1, z2, z3, z4, zl⟩ := hSw; go_simp⟩) ⟨(q0.x 0 _ rfl).1, (q0.x 1 _ rfl).1, (q0.x 2 _ rfl).1, (q0.x 3 _ rfl).1, (q0.x 4 _ rfl).1, q0.e.S2⟩ ?_
    simp only [Act.put, List.setIfInBounds_toArray, List.set_cons_zero, List.set_cons_succ]
    refine wpAnyH_takeL (i := 2) (v := .pointer (some ⟨w.heap.size + 1, 0, none⟩)) rfl (by kernel_rfl) (by kernel_rfl) (by kernel_rfl) (fun _ _ _ h => h) (Or.inl ⟨by rfl, fun w' hSw => by obtain ⟨z0, z1, z2, z3, z4, zl⟩ := hSw; go_simp⟩) ⟨(q0.x 0 _ rfl).1, (q0.x 1 _ rfl).1, (q0.x 2 _ rfl).1, (q0.x 3 _ rfl).1, (q0.x 4 _ rfl).1, q0.e.S2⟩ ?_
    simp only [Act.put, List.setIfInBounds_toArray, List.set_cons_zero, List.set_cons_succ]
    refine wpAnyH_takeL (i := 3) (v := .int .i64 (n.length : Int)) rfl (by kernel_rfl) (by kernel_rfl) (by kernel_rfl) (fun _ _ _ h => h) (Or.inl ⟨by rfl, fun w' hSw => by obtain ⟨z0, z1, z2, z3, z4, zl⟩ := hSw; go_simp⟩) ⟨(q0.x 0 _ rfl).1, (q0.x 1 _ rfl).1, (q0.x 2 _ rfl).1, (q0.x 3 _ rfl).1, (q0.x 4 _ rfl).1, q0.e.S2⟩ ?_
    simp only [Act.put, List.setIfInBounds_toArray, List.set_cons_zero, List.set_cons_succ]
    refine wpAnyH_ready (rs := [4, 7]) (by kernel_rfl) (by simp) ?_
    refine AllReadyH.consL rfl (fun K hK => ?_) (AllReadyH.consL rfl (fun K hK => ?_) AllReadyH.nil)
    · go_simp
      refine (pick_any (w.heap.size + 1) A c l (700 + 2) _ _ q0.cur (by omega) (by omega)).mono ?_
      rintro e V1 ⟨_, rfl, ⟨k2, rfl, hk2_⟩, hC1, hFn⟩
      have hk2 : k2 < n.length := by omega
      obtain ⟨y, hy, hym⟩ := get_lt hk2
      have q1 := q0.step (by simp) hFn hC1
      clear hFn hC1 hk2_ q0
      go_simp
      refine hK.out _ _ ⟨(q1.x 0 _ rfl).1, (q1.x 1 _ rfl).1, (q1.x 2 _ rfl).1, (q1.x 3 _ rfl).1, (q1.x 4 _ rfl).1, q1.e.S2⟩ (fun _ => ?_)
      clear hK K
      simp only [List.setIfInBounds_toArray, List.set_cons_zero, List.set_cons_succ]
      refine wpAnyH_takeL (i := 5) (v := .pointer (some ⟨ab, ao + k2 * 5, none⟩)) rfl (by kernel_rfl) (by kernel_rfl) (by kernel_rfl) (fun _ _ _ h => h) (Or.inl ⟨by rfl, fun w' hSw => by obtain ⟨z0, z1, z2, z3, z4, zl⟩ := hSw; go_simp⟩) ⟨(q1.x 0 _ rfl).1, (q1.x 1 _ rfl).1, (q1.x 2 _ rfl).1, (q1.x 3 _ rfl).1, (q1.x 4 _ rfl).1, q1.e.S2⟩ ?_
      simp only [Act.put, List.setIfInBounds_toArray, List.set_cons_zero, List.set_cons_succ]
      refine wpAnyH_takeL (i := 6) (v := .agg #[.string y.nm, .int .i64 y.kd, .int .i64 y.nd, .int .i64 y.cw, .int .i64 y.st]) rfl (by kernel_rfl) (by kernel_rfl) (by kernel_rfl) (fun _ _ _ h => h) (Or.inl ⟨by rfl, fun w' hSw => by obtain ⟨z0, z1, z2, z3, z4, zl⟩ := hSw; obtain ⟨_, _, ee_, _, _, _, hf_⟩ := zl.at_ hy; cases ee_; have d0 := (hf_ 0 _ rfl).1; have d1 := (hf_ 1 _ rfl).1; have d2 := (hf_ 2 _ rfl).1; have d3 := (hf_ 3 _ rfl).1; have d4 := (hf_ 4 _ rfl).1; simp only [Nat.add_zero] at d0; go_simp⟩) ⟨(q1.x 0 _ rfl).1, (q1.x 1 _ rfl).1, (q1.x 2 _ rfl).1, (q1.x 3 _ rfl).1, (q1.x 4 _ rfl).1, q1.e.S2⟩ ?_
      simp only [Act.put, List.setIfInBounds_toArray, List.set_cons_zero, List.set_cons_succ]
      refine wpAnyH_ready (rs := [7]) (by kernel_rfl) (by simp) ?_
      refine AllReadyH.consL rfl (fun K hK => ?_) AllReadyH.nil
      go_simp
      obtain ⟨pn, hpn⟩ : ∃ pn, pn = V1.heap.size := ⟨_, rfl⟩
      have hN2 := BN.new V1 #[.string ⟨#[]⟩, .int .i64 0, .int .i64 0, .int .i64 0, .int .i64 0] 73 pn hpn
      have hsz_ := q1.lt
      have q2 := q1.below (by simp) ((Below.refl V1.heap.size V1).alloc (Nat.le_refl _) (.cells #[.string ⟨#[]⟩, .int .i64 0, .int .i64 0, .int .i64 0, .int .i64 0] 73))
      have hpw : bx < pn := by omega
      have hpx := q2.hx
      rw [← hpn]
      clear hpn hsz_ q1
      generalize V1.alloc (.cells #[.string ⟨#[]⟩, .int .i64 0, .int .i64 0, .int .i64 0, .int .i64 0] 73) = V2 at hN2 q2 ⊢
      refine hK.out _ _ ⟨(q2.x 0 _ rfl).1, (q2.x 1 _ rfl).1, (q2.x 2 _ rfl).1, (q2.x 3 _ rfl).1, (q2.x 4 _ rfl).1, q2.e.S2⟩ (fun _ => ?_)
      clear hK K
      simp only [List.setIfInBounds_toArray, List.set_cons_zero, List.set_cons_succ]
      refine wpAnyH_ready (rs := [8]) (by kernel_rfl) (by simp) ?_
      refine AllReadyH.consL rfl (fun K hK => ?_) AllReadyH.nil
      have n0_ := (hN2 0 _ rfl).1
      have m0_ := (hN2 0 _ rfl).2
      have n1_ := (hN2 1 _ rfl).1
      have m1_ := (hN2 1 _ rfl).2
      have n2_ := (hN2 2 _ rfl).1
      have m2_ := (hN2 2 _ rfl).2
      have n3_ := (hN2 3 _ rfl).1
      have m3_ := (hN2 3 _ rfl).2
      have n4_ := (hN2 4 _ rfl).1
      have m4_ := (hN2 4 _ rfl).2
      go_simp
      have hY := (((((hN2.put (i := 0) rfl (.string y.nm)).put (i := 1) rfl (.int .i64 y.kd)).put (i := 2) rfl (.int .i64 y.nd)).put (i := 3) rfl (.int .i64 y.cw)).put (i := 4) rfl (.int .i64 y.st))
      have hF5 : Fr pn (pn + 1) V2 (((((V2.setCell ⟨pn, 0, none⟩ (.string y.nm)).setCell ⟨pn, 1, none⟩ (.int .i64 y.kd)).setCell ⟨pn, 2, none⟩ (.int .i64 y.nd)).setCell ⟨pn, 3, none⟩ (.int .i64 y.cw)).setCell ⟨pn, 4, none⟩ (.int .i64 y.st)) := ((((((Fr.refl pn (pn + 1) V2).setCell (p := ⟨pn, 0, none⟩) ⟨Nat.le_refl _, Nat.lt_succ_self _⟩ (.string y.nm)).setCell (p := ⟨pn, 1, none⟩) ⟨Nat.le_refl _, Nat.lt_succ_self _⟩ (.int .i64 y.kd)).setCell (p := ⟨pn, 2, none⟩) ⟨Nat.le_refl _, Nat.lt_succ_self _⟩ (.int .i64 y.nd)).setCell (p := ⟨pn, 3, none⟩) ⟨Nat.le_refl _, Nat.lt_succ_self _⟩ (.int .i64 y.cw)).setCell (p := ⟨pn, 4, none⟩) ⟨Nat.le_refl _, Nat.lt_succ_self _⟩ (.int .i64 y.st))
      have q := q2.side (by simp) hpw hF5
      refine hK.out _ _ ⟨(q.x 0 _ rfl).1, (q.x 1 _ rfl).1, (q.x 2 _ rfl).1, (q.x 3 _ rfl).1, (q.x 4 _ rfl).1, q.e.S2⟩ (fun _ => ?_)
      clear hK K
      simp only [List.setIfInBounds_toArray, List.set_cons_zero, List.set_cons_succ]
      refine wpAnyH_done (by kernel_rfl) ?_ _
      clear n0_ n1_ n2_ n3_ n4_ m0_ m1_ m2_ m3_ m4_ hF5 hN2 q2
      generalize (((((V2.setCell ⟨pn, 0, none⟩ (.string y.nm)).setCell ⟨pn, 1, none⟩ (.int .i64 y.kd)).setCell ⟨pn, 2, none⟩ (.int .i64 y.nd)).setCell ⟨pn, 3, none⟩ (.int .i64 y.cw)).setCell ⟨pn, 4, none⟩ (.int .i64 y.st)) = U at q hY ⊢
      have hyn : y.nm.size ≤ 1048576 := hmn y hym
      have y0_ := (hY 0 _ rfl).1
      have y1_ := (hY 1 _ rfl).1
      have y2_ := (hY 2 _ rfl).1
      have y3_ := (hY 3 _ rfl).1
      have y4_ := (hY 4 _ rfl).1
      have cN := apNext_any y.st
      have hNl := nextL_len y.st
      have hN0l : 0 < (nextL y.st).length := by unfold nextL; (repeat' split) <;> simp
      generalize nextL y.st = NL at cN hNl hN0l
      go_wp2_with fail
      refine (cN _).mono ?_
      rintro e wA ⟨NA, nc, rfl, hnS, hnc_, hb⟩
      have hsu := q.lt
      have hxu := q.hx
      replace q := q.below (by simp) hb
      have hnc := keep hb y0_
      clear cN y0_ y1_ y2_ y3_ y4_ hY
      obtain ⟨x0_, hx0_, _⟩ := get_lt hN0l
      obtain ⟨nb, no, rfl, _, _, _, _⟩ := hnS.at_ hx0_
      obtain ⟨nlo, hnlo⟩ : ∃ nlo, nlo = U.heap.size := ⟨_, rfl⟩
      obtain ⟨nhi, hnhi⟩ : ∃ nhi, nhi = wA.heap.size := ⟨_, rfl⟩
      have hnl_ : Ints wA nlo nhi (some ⟨nb, no, none⟩) NL := by rw [hnlo, hnhi]; exact hnS
      have hnlp : w.heap.size + 2 ≤ nlo := by omega
      clear hnS hnlo hnhi hb hx0_ hsu
      go_upto_region 7 with fail
      have q1_ := q.below (by simp) (Below.refl _ _).drew
      have h0n : wA.drew.cell? ⟨pn, 0, none⟩ = some (.string y.nm) := hnc
      have h0l : Ints wA.drew nlo nhi (some ⟨nb, no, none⟩) NL := hnl_
      refine wp_region_held_drew (S := (fun w' => w'.cell? ⟨bx, 0, none⟩ = some (.slice A1 f.length c1) ∧ w'.cell? ⟨bx, 1, none⟩ = some (.slice (some ⟨ab, ao, none⟩) n.length c2) ∧ w'.cell? ⟨bx, 2, none⟩ = some (.slice A3 s.length c3) ∧ w'.cell? ⟨bx, 3, none⟩ = some (.slice A4 r.length c4) ∧ w'.cell? ⟨bx, 4, none⟩ = some (.slice A5 h.length c5) ∧ w'.cell? ⟨pn, 0, none⟩ = some (.string y.nm) ∧ Ints w' nlo nhi (some ⟨nb, no, none⟩) NL)) (by kernel_rfl) ⟨(q1_.x 0 _ rfl).1, (q1_.x 1 _ rfl).1, (q1_.x 2 _ rfl).1, (q1_.x 3 _ rfl).1, (q1_.x 4 _ rfl).1, h0n, h0l⟩ (fun hHeld => ?_)
      clear hHeld q hnc hnl_
      generalize wA.drew = V0 at q1_ h0n h0l ⊢
      have q0 := q1_
      clear q1_
      change wpAnyH _ _ _ _ _ 13 #[false, false, false, false, false, false, false, false, false, false, false, false, false] _ _
      refine wpAnyH_takeL (i := 0) (v := .agg #[.slice A1 f.length c1, .slice (some ⟨ab, ao, none⟩) n.length c2, .slice A3 s.length c3, .slice A4 r.length c4, .slice A5 h.length c5]) rfl (by kernel_rfl) (by kernel_rfl) (by kernel_rfl) (fun _ _ _ h => h) (Or.inl ⟨by rfl, fun w' hSw => by obtain ⟨z0, z1, z2, z3, z4, zn, zl⟩ := hSw; go_simp⟩) ⟨(q0.x 0 _ rfl).1, (q0.x 1 _ rfl).1, (q0.x 2 _ rfl).1, (q0.x 3 _ rfl).1, (q0.x 4 _ rfl).1, h0n, h0l⟩ ?_
      simp only [Act.put, List.setIfInBounds_toArray, List.set_cons_zero, List.set_cons_succ]
      refine wpAnyH_takeL (i := 1) (v := .pointer (some ⟨pn, 0, none⟩)) rfl (by kernel_rfl) (by kernel_rfl) (by kernel_rfl) (fun _ _ _ h => h) (Or.inl ⟨by rfl, fun w' hSw => by obtain ⟨z0, z1, z2, z3, z4, zn, zl⟩ := hSw; go_simp⟩) ⟨(q0.x 0 _ rfl).1, (q0.x 1 _ rfl).1, (q0.x 2 _ rfl).1, (q0.x 3 _ rfl).1, (q0.x 4 _ rfl).1, h0n, h0l⟩ ?_
      simp only [Act.put, List.setIfInBounds_toArray, List.set_cons_zero, List.set_cons_succ]
      refine wpAnyH_takeL (i := 2) (v := .string y.nm) rfl (by kernel_rfl) (by kernel_rfl) (by kernel_rfl) (fun _ _ _ h => h) (Or.inl ⟨by rfl, fun w' hSw => by obtain ⟨z0, z1, z2, z3, z4, zn, zl⟩ := hSw; go_simp⟩) ⟨(q0.x 0 _ rfl).1, (q0.x 1 _ rfl).1, (q0.x 2 _ rfl).1, (q0.x 3 _ rfl).1, (q0.x 4 _ rfl).1, h0n, h0l⟩ ?_
      simp only [Act.put, List.setIfInBounds_toArray, List.set_cons_zero, List.set_cons_succ]
      refine wpAnyH_takeL (i := 3) (v := .slice (some ⟨nb, no, none⟩) NL.length nc) rfl (by kernel_rfl) (by kernel_rfl) (by kernel_rfl) (fun _ _ _ h => h) (Or.inl ⟨by rfl, fun w' hSw => by obtain ⟨z0, z1, z2, z3, z4, zn, zl⟩ := hSw; go_simp⟩) ⟨(q0.x 0 _ rfl).1, (q0.x 1 _ rfl).1, (q0.x 2 _ rfl).1, (q0.x 3 _ rfl).1, (q0.x 4 _ rfl).1, h0n, h0l⟩ ?_
      simp only [Act.put, List.setIfInBounds_toArray, List.set_cons_zero, List.set_cons_succ]
      refine wpAnyH_takeL (i := 4) (v := .pointer (some ⟨w.heap.size + 1, 0, none⟩)) rfl (by kernel_rfl) (by kernel_rfl) (by kernel_rfl) (fun _ _ _ h => h) (Or.inl ⟨by rfl, fun w' hSw => by obtain ⟨z0, z1, z2, z3, z4, zn, zl⟩ := hSw; go_simp⟩) ⟨(q0.x 0 _ rfl).1, (q0.x 1 _ rfl).1, (q0.x 2 _ rfl).1, (q0.x 3 _ rfl).1, (q0.x 4 _ rfl).1, h0n, h0l⟩ ?_
      simp only [Act.put, List.setIfInBounds_toArray, List.set_cons_zero, List.set_cons_succ]
      refine wpAnyH_takeL (i := 5) (v := .slice (some ⟨nb, no, none⟩) NL.length nc) rfl (by kernel_rfl) (by kernel_rfl) (by kernel_rfl) (fun _ _ _ h => h) (Or.inl ⟨by rfl, fun w' hSw => by obtain ⟨z0, z1, z2, z3, z4, zn, zl⟩ := hSw; go_simp⟩) ⟨(q0.x 0 _ rfl).1, (q0.x 1 _ rfl).1, (q0.x 2 _ rfl).1, (q0.x 3 _ rfl).1, (q0.x 4 _ rfl).1, h0n, h0l⟩ ?_
      simp only [Act.put, List.setIfInBounds_toArray, List.set_cons_zero, List.set_cons_succ]
      refine wpAnyH_takeL (i := 6) (v := .int .i64 (NL.length : Int)) rfl (by kernel_rfl) (by kernel_rfl) (by kernel_rfl) (fun _ _ _ h => h) (Or.inl ⟨by rfl, fun w' hSw => by obtain ⟨z0, z1, z2, z3, z4, zn, zl⟩ := hSw; go_simp⟩) ⟨(q0.x 0 _ rfl).1, (q0.x 1 _ rfl).1, (q0.x 2 _ rfl).1, (q0.x 3 _ rfl).1, (q0.x 4 _ rfl).1, h0n, h0l⟩ ?_
      simp only [Act.put, List.setIfInBounds_toArray, List.set_cons_zero, List.set_cons_succ]
      refine wpAnyH_ready (rs := [7]) (by kernel_rfl) (by simp) ?_
      refine AllReadyH.consL rfl (fun K hK => ?_) AllReadyH.nil
      go_simp
      refine (pick_any (w.heap.size + 1) A c l (700 + 2 + 2) _ _ q0.cur (by omega) (by omega)).mono ?_
      rintro e V1 ⟨_, rfl, ⟨k3, rfl, hk3_⟩, hC1, hFn⟩
      have hk3 : k3 < NL.length := by omega
      obtain ⟨st_, hst_, _⟩ := get_lt hk3
      have q1 := q0.step (by simp) hFn hC1
      have h1n := (World.cell?_of_block (hFn.block pn (World.block_lt_of_cell? _ _ h0n) (by omega))).trans h0n
      have h1l : Ints V1 nlo nhi (some ⟨nb, no, none⟩) NL := h0l.fr hFn (by omega)
      clear hFn hC1 hk3_ q0 h0n h0l
      go_simp
      refine hK.out _ _ ⟨(q1.x 0 _ rfl).1, (q1.x 1 _ rfl).1, (q1.x 2 _ rfl).1, (q1.x 3 _ rfl).1, (q1.x 4 _ rfl).1, h1n, h1l⟩ (fun _ => ?_)
      clear hK K
      simp only [List.setIfInBounds_toArray, List.set_cons_zero, List.set_cons_succ]
      refine wpAnyH_takeL (i := 8) (v := .pointer (some ⟨nb, no + k3, none⟩)) rfl (by kernel_rfl) (by kernel_rfl) (by kernel_rfl) (fun _ _ _ h => h) (Or.inl ⟨by rfl, fun w' hSw => by obtain ⟨z0, z1, z2, z3, z4, zn, zl⟩ := hSw; go_simp⟩) ⟨(q1.x 0 _ rfl).1, (q1.x 1 _ rfl).1, (q1.x 2 _ rfl).1, (q1.x 3 _ rfl).1, (q1.x 4 _ rfl).1, h1n, h1l⟩ ?_
      simp only [Act.put, List.setIfInBounds_toArray, List.set_cons_zero, List.set_cons_succ]
      refine wpAnyH_takeL (i := 9) (v := .int .i64 st_) rfl (by kernel_rfl) (by kernel_rfl) (by kernel_rfl) (fun _ _ _ h => h) (Or.inl ⟨by rfl, fun w' hSw => by obtain ⟨z0, z1, z2, z3, z4, zn, zl⟩ := hSw; obtain ⟨_, _, ee_, _, _, _, cc_, _⟩ := Ints.at1 zl hst_; cases ee_; go_simp⟩) ⟨(q1.x 0 _ rfl).1, (q1.x 1 _ rfl).1, (q1.x 2 _ rfl).1, (q1.x 3 _ rfl).1, (q1.x 4 _ rfl).1, h1n, h1l⟩ ?_
      simp only [Act.put, List.setIfInBounds_toArray, List.set_cons_zero, List.set_cons_succ]
      refine wpAnyH_ready (rs := [10]) (by kernel_rfl) (by simp) ?_
      refine AllReadyH.consL rfl (fun K hK => ?_) AllReadyH.nil
      obtain ⟨k0_, f0_⟩ := q1.z 0 _ rfl
      obtain ⟨k1_, f1_⟩ := q1.z 1 _ rfl
      obtain ⟨k2_, f2_⟩ := q1.z 2 _ rfl
      obtain ⟨k3_, f3_⟩ := q1.z 3 _ rfl
      obtain ⟨k4_, f4_⟩ := q1.z 4 _ rfl
      go_simp
      clear k0_ f0_ k1_ f1_ k2_ f2_ k3_ f3_ k4_ f4_
      have q2 := q1.store
      have hF9 : Fr w.heap.size (w.heap.size + 1) V1 (((((V1.setCell ⟨w.heap.size, 0, none⟩ (.slice A1 f.length c1)).setCell ⟨w.heap.size, 1, none⟩ (.slice (some ⟨ab, ao, none⟩) n.length c2)).setCell ⟨w.heap.size, 2, none⟩ (.slice A3 s.length c3)).setCell ⟨w.heap.size, 3, none⟩ (.slice A4 r.length c4)).setCell ⟨w.heap.size, 4, none⟩ (.slice A5 h.length c5)) := ((((((Fr.refl w.heap.size (w.heap.size + 1) V1).setCell (p := ⟨w.heap.size, 0, none⟩) ⟨Nat.le_refl _, Nat.lt_succ_self _⟩ (.slice A1 f.length c1)).setCell (p := ⟨w.heap.size, 1, none⟩) ⟨Nat.le_refl _, Nat.lt_succ_self _⟩ (.slice (some ⟨ab, ao, none⟩) n.length c2)).setCell (p := ⟨w.heap.size, 2, none⟩) ⟨Nat.le_refl _, Nat.lt_succ_self _⟩ (.slice A3 s.length c3)).setCell (p := ⟨w.heap.size, 3, none⟩) ⟨Nat.le_refl _, Nat.lt_succ_self _⟩ (.slice A4 r.length c4)).setCell (p := ⟨w.heap.size, 4, none⟩) ⟨Nat.le_refl _, Nat.lt_succ_self _⟩ (.slice A5 h.length c5))
      have h2n := (World.cell?_of_block (hF9.block pn (World.block_lt_of_cell? _ _ h1n) (by omega))).trans h1n
      have h2l : Ints (((((V1.setCell ⟨w.heap.size, 0, none⟩ (.slice A1 f.length c1)).setCell ⟨w.heap.size, 1, none⟩ (.slice (some ⟨ab, ao, none⟩) n.length c2)).setCell ⟨w.heap.size, 2, none⟩ (.slice A3 s.length c3)).setCell ⟨w.heap.size, 3, none⟩ (.slice A4 r.length c4)).setCell ⟨w.heap.size, 4, none⟩ (.slice A5 h.length c5)) nlo nhi (some ⟨nb, no, none⟩) NL := h1l.fr hF9 (by omega)
      clear hF9 h1n h1l
      refine hK.out _ _ ⟨(q2.x 0 _ rfl).1, (q2.x 1 _ rfl).1, (q2.x 2 _ rfl).1, (q2.x 3 _ rfl).1, (q2.x 4 _ rfl).1, h2n, h2l⟩ (fun _ => ?_)
      clear hK K
      simp only [List.setIfInBounds_toArray, List.set_cons_zero, List.set_cons_succ]
      clear q1
      generalize (((((V1.setCell ⟨w.heap.size, 0, none⟩ (.slice A1 f.length c1)).setCell ⟨w.heap.size, 1, none⟩ (.slice (some ⟨ab, ao, none⟩) n.length c2)).setCell ⟨w.heap.size, 2, none⟩ (.slice A3 s.length c3)).setCell ⟨w.heap.size, 3, none⟩ (.slice A4 r.length c4)).setCell ⟨w.heap.size, 4, none⟩ (.slice A5 h.length c5)) = V2 at q2 h2n h2l ⊢
      refine wpAnyH_takeL (i := 11) (v := .string y.nm) rfl (by kernel_rfl) (by kernel_rfl) (by kernel_rfl) (fun _ _ _ h => h) (Or.inl ⟨by rfl, fun w' hSw => by obtain ⟨z0, z1, z2, z3, z4, zn, zl⟩ := hSw; go_simp⟩) ⟨(q2.x 0 _ rfl).1, (q2.x 1 _ rfl).1, (q2.x 2 _ rfl).1, (q2.x 3 _ rfl).1, (q2.x 4 _ rfl).1, h2n, h2l⟩ ?_
      simp only [Act.put, List.setIfInBounds_toArray, List.set_cons_zero, List.set_cons_succ]
      refine wpAnyH_takeL (i := 12) (v := .int .i64 st_) rfl (by kernel_rfl) (by kernel_rfl) (by kernel_rfl) (fun _ _ _ h => h) (Or.inl ⟨by rfl, fun w' hSw => by obtain ⟨z0, z1, z2, z3, z4, zn, zl⟩ := hSw; go_simp⟩) ⟨(q2.x 0 _ rfl).1, (q2.x 1 _ rfl).1, (q2.x 2 _ rfl).1, (q2.x 3 _ rfl).1, (q2.x 4 _ rfl).1, h2n, h2l⟩ ?_
      simp only [Act.put, List.setIfInBounds_toArray, List.set_cons_zero, List.set_cons_succ]
      refine wpAnyH_done (by kernel_rfl) ?_ _
      have z0 := (q2.z 0 _ rfl).1
      have z1 := (q2.z 1 _ rfl).1
      have z2 := (q2.z 2 _ rfl).1
      have z3 := (q2.z 3 _ rfl).1
      have z4 := (q2.z 4 _ rfl).1
      go_wp2
      refine bodyPost_ret (by simp [results, Tryz.results29, go_sem, z0, z1, z2, z3, z4]; try rfl) rfl ?_
      exact ⟨A1, c1, f, some ⟨ab, ao, none⟩, c2, n, A3, c3, s, A4, c4, r, A5, c5, h, y.nm, st_, rfl, hyn, q2.e.ed.lift (by omega), q2.b⟩
    · go_simp
      obtain ⟨pn, hpn⟩ : ∃ pn, pn = V0.heap.size := ⟨_, rfl⟩
      have hN1 := BN.new V0 #[.string ⟨#[]⟩, .int .i64 0, .int .i64 0, .int .i64 0, .int .i64 0] 73 pn hpn
      have hsz_ := q0.lt
      have q1 := q0.below (by simp) ((Below.refl V0.heap.size V0).alloc (Nat.le_refl _) (.cells #[.string ⟨#[]⟩, .int .i64 0, .int .i64 0, .int .i64 0, .int .i64 0] 73))
      have hpw : bx < pn := by omega
      have hpx := q1.hx
      rw [← hpn]
      clear hpn hsz_ q0
      generalize V0.alloc (.cells #[.string ⟨#[]⟩, .int .i64 0, .int .i64 0, .int .i64 0, .int .i64 0] 73) = V1 at hN1 q1 ⊢
      refine hK.out _ _ ⟨(q1.x 0 _ rfl).1, (q1.x 1 _ rfl).1, (q1.x 2 _ rfl).1, (q1.x 3 _ rfl).1, (q1.x 4 _ rfl).1, q1.e.S2⟩ (fun _ => ?_)
      clear hK K
      simp only [List.setIfInBounds_toArray, List.set_cons_zero, List.set_cons_succ]
      refine wpAnyH_ready (rs := [4]) (by kernel_rfl) (by simp) ?_
      refine AllReadyH.consL rfl (fun K hK => ?_) AllReadyH.nil
      go_simp
      refine (pick_any (w.heap.size + 1) A c l (700 + 2) _ _ q1.cur (by omega) (by omega)).mono ?_
      rintro e V2 ⟨_, rfl, ⟨k2, rfl, hk2_⟩, hC1, hFn⟩
      have hk2 : k2 < n.length := by omega
      obtain ⟨y, hy, hym⟩ := get_lt hk2
      have q2 := q1.step (by simp) hFn hC1
      have hN2 := hN1.fr hFn (by simp) (by omega)
      clear hFn hC1 hk2_ q1 hN1
      go_simp
      refine hK.out _ _ ⟨(q2.x 0 _ rfl).1, (q2.x 1 _ rfl).1, (q2.x 2 _ rfl).1, (q2.x 3 _ rfl).1, (q2.x 4 _ rfl).1, q2.e.S2⟩ (fun _ => ?_)
      clear hK K
      simp only [List.setIfInBounds_toArray, List.set_cons_zero, List.set_cons_succ]
      refine wpAnyH_takeL (i := 5) (v := .pointer (some ⟨ab, ao + k2 * 5, none⟩)) rfl (by kernel_rfl) (by kernel_rfl) (by kernel_rfl) (fun _ _ _ h => h) (Or.inl ⟨by rfl, fun w' hSw => by obtain ⟨z0, z1, z2, z3, z4, zl⟩ := hSw; go_simp⟩) ⟨(q2.x 0 _ rfl).1, (q2.x 1 _ rfl).1, (q2.x 2 _ rfl).1, (q2.x 3 _ rfl).1, (q2.x 4 _ rfl).1, q2.e.S2⟩ ?_
      simp only [Act.put, List.setIfInBounds_toArray, List.set_cons_zero, List.set_cons_succ]
      refine wpAnyH_takeL (i := 6) (v := .agg #[.string y.nm, .int .i64 y.kd, .int .i64 y.nd, .int .i64 y.cw, .int .i64 y.st]) rfl (by kernel_rfl) (by kernel_rfl) (by kernel_rfl) (fun _ _ _ h => h) (Or.inl ⟨by rfl, fun w' hSw => by obtain ⟨z0, z1, z2, z3, z4, zl⟩ := hSw; obtain ⟨_, _, ee_, _, _, _, hf_⟩ := zl.at_ hy; cases ee_; have d0 := (hf_ 0 _ rfl).1; have d1 := (hf_ 1 _ rfl).1; have d2 := (hf_ 2 _ rfl).1; have d3 := (hf_ 3 _ rfl).1; have d4 := (hf_ 4 _ rfl).1; simp only [Nat.add_zero] at d0; go_simp⟩) ⟨(q2.x 0 _ rfl).1, (q2.x 1 _ rfl).1, (q2.x 2 _ rfl).1, (q2.x 3 _ rfl).1, (q2.x 4 _ rfl).1, q2.e.S2⟩ ?_
      simp only [Act.put, List.setIfInBounds_toArray, List.set_cons_zero, List.set_cons_succ]
      refine wpAnyH_ready (rs := [8]) (by kernel_rfl) (by simp) ?_
      refine AllReadyH.consL rfl (fun K hK => ?_) AllReadyH.nil
      have n0_ := (hN2 0 _ rfl).1
      have m0_ := (hN2 0 _ rfl).2
      have n1_ := (hN2 1 _ rfl).1
      have m1_ := (hN2 1 _ rfl).2
      have n2_ := (hN2 2 _ rfl).1
      have m2_ := (hN2 2 _ rfl).2
      have n3_ := (hN2 3 _ rfl).1
      have m3_ := (hN2 3 _ rfl).2
      have n4_ := (hN2 4 _ rfl).1
      have m4_ := (hN2 4 _ rfl).2
      go_simp
      have hY := (((((hN2.put (i := 0) rfl (.string y.nm)).put (i := 1) rfl (.int .i64 y.kd)).put (i := 2) rfl (.int .i64 y.nd)).put (i := 3) rfl (.int .i64 y.cw)).put (i := 4) rfl (.int .i64 y.st))
      have hF5 : Fr pn (pn + 1) V2 (((((V2.setCell ⟨pn, 0, none⟩ (.string y.nm)).setCell ⟨pn, 1, none⟩ (.int .i64 y.kd)).setCell ⟨pn, 2, none⟩ (.int .i64 y.nd)).setCell ⟨pn, 3, none⟩ (.int .i64 y.cw)).setCell ⟨pn, 4, none⟩ (.int .i64 y.st)) := ((((((Fr.refl pn (pn + 1) V2).setCell (p := ⟨pn, 0, none⟩) ⟨Nat.le_refl _, Nat.lt_succ_self _⟩ (.string y.nm)).setCell (p := ⟨pn, 1, none⟩) ⟨Nat.le_refl _, Nat.lt_succ_self _⟩ (.int .i64 y.kd)).setCell (p := ⟨pn, 2, none⟩) ⟨Nat.le_refl _, Nat.lt_succ_self _⟩ (.int .i64 y.nd)).setCell (p := ⟨pn, 3, none⟩) ⟨Nat.le_refl _, Nat.lt_succ_self _⟩ (.int .i64 y.cw)).setCell (p := ⟨pn, 4, none⟩) ⟨Nat.le_refl _, Nat.lt_succ_self _⟩ (.int .i64 y.st))
      have q := q2.side (by simp) hpw hF5
      refine hK.out _ _ ⟨(q.x 0 _ rfl).1, (q.x 1 _ rfl).1, (q.x 2 _ rfl).1, (q.x 3 _ rfl).1, (q.x 4 _ rfl).1, q.e.S2⟩ (fun _ => ?_)
      clear hK K
      simp only [List.setIfInBounds_toArray, List.set_cons_zero, List.set_cons_succ]
      refine wpAnyH_done (by kernel_rfl) ?_ _
      clear n0_ n1_ n2_ n3_ n4_ m0_ m1_ m2_ m3_ m4_ hF5 hN2 q2
      generalize (((((V2.setCell ⟨pn, 0, none⟩ (.string y.nm)).setCell ⟨pn, 1, none⟩ (.int .i64 y.kd)).setCell ⟨pn, 2, none⟩ (.int .i64 y.nd)).setCell ⟨pn, 3, none⟩ (.int .i64 y.cw)).setCell ⟨pn, 4, none⟩ (.int .i64 y.st)) = U at q hY ⊢
      have hyn : y.nm.size ≤ 1048576 := hmn y hym
      have y0_ := (hY 0 _ rfl).1
      have y1_ := (hY 1 _ rfl).1
      have y2_ := (hY 2 _ rfl).1
      have y3_ := (hY 3 _ rfl).1
      have y4_ := (hY 4 _ rfl).1
      have cN := apNext_any y.st
      have hNl := nextL_len y.st
      have hN0l : 0 < (nextL y.st).length := by unfold nextL; (repeat' split) <;> simp
      generalize nextL y.st = NL at cN hNl hN0l
      go_wp2_with fail
      refine (cN _).mono ?_
      rintro e wA ⟨NA, nc, rfl, hnS, hnc_, hb⟩
      have hsu := q.lt
      have hxu := q.hx
      replace q := q.below (by simp) hb
      have hnc := keep hb y0_
      clear cN y0_ y1_ y2_ y3_ y4_ hY
      obtain ⟨x0_, hx0_, _⟩ := get_lt hN0l
      obtain ⟨nb, no, rfl, _, _, _, _⟩ := hnS.at_ hx0_
      obtain ⟨nlo, hnlo⟩ : ∃ nlo, nlo = U.heap.size := ⟨_, rfl⟩
      obtain ⟨nhi, hnhi⟩ : ∃ nhi, nhi = wA.heap.size := ⟨_, rfl⟩
      have hnl_ : Ints wA nlo nhi (some ⟨nb, no, none⟩) NL := by rw [hnlo, hnhi]; exact hnS
      have hnlp : w.heap.size + 2 ≤ nlo := by omega
      clear hnS hnlo hnhi hb hx0_ hsu
      go_upto_region 7 with fail
      have q1_ := q.below (by simp) (Below.refl _ _).drew
      have h0n : wA.drew.cell? ⟨pn, 0, none⟩ = some (.string y.nm) := hnc
      have h0l : Ints wA.drew nlo nhi (some ⟨nb, no, none⟩) NL := hnl_
      refine wp_region_held_drew (S := (fun w' => w'.cell? ⟨bx, 0, none⟩ = some (.slice A1 f.length c1) ∧ w'.cell? ⟨bx, 1, none⟩ = some (.slice (some ⟨ab, ao, none⟩) n.length c2) ∧ w'.cell? ⟨bx, 2, none⟩ = some (.slice A3 s.length c3) ∧ w'.cell? ⟨bx, 3, none⟩ = some (.slice A4 r.length c4) ∧ w'.cell? ⟨bx, 4, none⟩ = some (.slice A5 h.length c5) ∧ w'.cell? ⟨pn, 0, none⟩ = some (.string y.nm) ∧ Ints w' nlo nhi (some ⟨nb, no, none⟩) NL)) (by kernel_rfl) ⟨(q1_.x 0 _ rfl).1, (q1_.x 1 _ rfl).1, (q1_.x 2 _ rfl).1, (q1_.x 3 _ rfl).1, (q1_.x 4 _ rfl).1, h0n, h0l⟩ (fun hHeld => ?_)
      clear hHeld q hnc hnl_
      generalize wA.drew = V0 at q1_ h0n h0l ⊢
      have q0 := q1_
      clear q1_
      change wpAnyH _ _ _ _ _ 13 #[false, false, false, false, false, false, false, false, false, false, false, false, false] _ _
      refine wpAnyH_takeL (i := 0) (v := .agg #[.slice A1 f.length c1, .slice (some ⟨ab, ao, none⟩) n.length c2, .slice A3 s.length c3, .slice A4 r.length c4, .slice A5 h.length c5]) rfl (by kernel_rfl) (by kernel_rfl) (by kernel_rfl) (fun _ _ _ h => h) (Or.inl ⟨by rfl, fun w' hSw => by obtain ⟨z0, z1, z2, z3, z4, zn, zl⟩ := hSw; go_simp⟩) ⟨(q0.x 0 _ rfl).1, (q0.x 1 _ rfl).1, (q0.x 2 _ rfl).1, (q0.x 3 _ rfl).1, (q0.x 4 _ rfl).1, h0n, h0l⟩ ?_
      simp only [Act.put, List.setIfInBounds_toArray, List.set_cons_zero, List.set_cons_succ]
      refine wpAnyH_takeL (i := 1) (v := .pointer (some ⟨pn, 0, none⟩)) rfl (by kernel_rfl) (by kernel_rfl) (by kernel_rfl) (fun _ _ _ h => h) (Or.inl ⟨by rfl, fun w' hSw => by obtain ⟨z0, z1, z2, z3, z4, zn, zl⟩ := hSw; go_simp⟩) ⟨(q0.x 0 _ rfl).1, (q0.x 1 _ rfl).1, (q0.x 2 _ rfl).1, (q0.x 3 _ rfl).1, (q0.x 4 _ rfl).1, h0n, h0l⟩ ?_
      simp only [Act.put, List.setIfInBounds_toArray, List.set_cons_zero, List.set_cons_succ]
      refine wpAnyH_takeL (i := 2) (v := .string y.nm) rfl (by kernel_rfl) (by kernel_rfl) (by kernel_rfl) (fun _ _ _ h => h) (Or.inl ⟨by rfl, fun w' hSw => by obtain ⟨z0, z1, z2, z3, z4, zn, zl⟩ := hSw; go_simp⟩) ⟨(q0.x 0 _ rfl).1, (q0.x 1 _ rfl).1, (q0.x 2 _ rfl).1, (q0.x 3 _ rfl).1, (q0.x 4 _ rfl).1, h0n, h0l⟩ ?_
      simp only [Act.put, List.setIfInBounds_toArray, List.set_cons_zero, List.set_cons_succ]
      refine wpAnyH_takeL (i := 3) (v := .slice (some ⟨nb, no, none⟩) NL.length nc) rfl (by kernel_rfl) (by kernel_rfl) (by kernel_rfl) (fun _ _ _ h => h) (Or.inl ⟨by rfl, fun w' hSw => by obtain ⟨z0, z1, z2, z3, z4, zn, zl⟩ := hSw; go_simp⟩) ⟨(q0.x 0 _ rfl).1, (q0.x 1 _ rfl).1, (q0.x 2 _ rfl).1, (q0.x 3 _ rfl).1, (q0.x 4 _ rfl).1, h0n, h0l⟩ ?_
      simp only [Act.put, List.setIfInBounds_toArray, List.set_cons_zero, List.set_cons_succ]
      refine wpAnyH_takeL (i := 4) (v := .pointer (some ⟨w.heap.size + 1, 0, none⟩)) rfl (by kernel_rfl) (by kernel_rfl) (by kernel_rfl) (fun _ _ _ h => h) (Or.inl ⟨by rfl, fun w' hSw => by obtain ⟨z0, z1, z2, z3, z4, zn, zl⟩ := hSw; go_simp⟩) ⟨(q0.x 0 _ rfl).1, (q0.x 1 _ rfl).1, (q0.x 2 _ rfl).1, (q0.x 3 _ rfl).1, (q0.x 4 _ rfl).1, h0n, h0l⟩ ?_
      simp only [Act.put, List.setIfInBounds_toArray, List.set_cons_zero, List.set_cons_succ]
      refine wpAnyH_takeL (i := 5) (v := .slice (some ⟨nb, no, none⟩) NL.length nc) rfl (by kernel_rfl) (by kernel_rfl) (by kernel_rfl) (fun _ _ _ h => h) (Or.inl ⟨by rfl, fun w' hSw => by obtain ⟨z0, z1, z2, z3, z4, zn, zl⟩ := hSw; go_simp⟩) ⟨(q0.x 0 _ rfl).1, (q0.x 1 _ rfl).1, (q0.x 2 _ rfl).1, (q0.x 3 _ rfl).1, (q0.x 4 _ rfl).1, h0n, h0l⟩ ?_
      simp only [Act.put, List.setIfInBounds_toArray, List.set_cons_zero, List.set_cons_succ]
      refine wpAnyH_takeL (i := 6) (v := .int .i64 (NL.length : Int)) rfl (by kernel_rfl) (by kernel_rfl) (by kernel_rfl) (fun _ _ _ h => h) (Or.inl ⟨by rfl, fun w' hSw => by obtain ⟨z0, z1, z2, z3, z4, zn, zl⟩ := hSw; go_simp⟩) ⟨(q0.x 0 _ rfl).1, (q0.x 1 _ rfl).1, (q0.x 2 _ rfl).1, (q0.x 3 _ rfl).1, (q0.x 4 _ rfl).1, h0n, h0l⟩ ?_
      simp only [Act.put, List.setIfInBounds_toArray, List.set_cons_zero, List.set_cons_succ]
      refine wpAnyH_ready (rs := [7]) (by kernel_rfl) (by simp) ?_
      refine AllReadyH.consL rfl (fun K hK => ?_) AllReadyH.nil
      go_simp
      refine (pick_any (w.heap.size + 1) A c l (700 + 2 + 2) _ _ q0.cur (by omega) (by omega)).mono ?_
      rintro e V1 ⟨_, rfl, ⟨k3, rfl, hk3_⟩, hC1, hFn⟩
      have hk3 : k3 < NL.length := by omega
      obtain ⟨st_, hst_, _⟩ := get_lt hk3
      have q1 := q0.step (by simp) hFn hC1
      have h1n := (World.cell?_of_block (hFn.block pn (World.block_lt_of_cell? _ _ h0n) (by omega))).trans h0n
      have h1l : Ints V1 nlo nhi (some ⟨nb, no, none⟩) NL := h0l.fr hFn (by omega)
      clear hFn hC1 hk3_ q0 h0n h0l
      go_simp
      refine hK.out _ _ ⟨(q1.x 0 _ rfl).1, (q1.x 1 _ rfl).1, (q1.x 2 _ rfl).1, (q1.x 3 _ rfl).1, (q1.x 4 _ rfl).1, h1n, h1l⟩ (fun _ => ?_)
      clear hK K
      simp only [List.setIfInBounds_toArray, List.set_cons_zero, List.set_cons_succ]
      refine wpAnyH_takeL (i := 8) (v := .pointer (some ⟨nb, no + k3, none⟩)) rfl (by kernel_rfl) (by kernel_rfl) (by kernel_rfl) (fun _ _ _ h => h) (Or.inl ⟨by rfl, fun w' hSw => by obtain ⟨z0, z1, z2, z3, z4, zn, zl⟩ := hSw; go_simp⟩) ⟨(q1.x 0 _ rfl).1, (q1.x 1 _ rfl).1, (q1.x 2 _ rfl).1, (q1.x 3 _ rfl).1, (q1.x 4 _ rfl).1, h1n, h1l⟩ ?_
      simp only [Act.put, List.setIfInBounds_toArray, List.set_cons_zero, List.set_cons_succ]
      refine wpAnyH_takeL (i := 9) (v := .int .i64 st_) rfl (by kernel_rfl) (by kernel_rfl) (by kernel_rfl) (fun _ _ _ h => h) (Or.inl ⟨by rfl, fun w' hSw => by obtain ⟨z0, z1, z2, z3, z4, zn, zl⟩ := hSw; obtain ⟨_, _, ee_, _, _, _, cc_, _⟩ := Ints.at1 zl hst_; cases ee_; go_simp⟩) ⟨(q1.x 0 _ rfl).1, (q1.x 1 _ rfl).1, (q1.x 2 _ rfl).1, (q1.x 3 _ rfl).1, (q1.x 4 _ rfl).1, h1n, h1l⟩ ?_
      simp only [Act.put, List.setIfInBounds_toArray, List.set_cons_zero, List.set_cons_succ]
      refine wpAnyH_ready (rs := [10]) (by kernel_rfl) (by simp) ?_
      refine AllReadyH.consL rfl (fun K hK => ?_) AllReadyH.nil
      obtain ⟨k0_, f0_⟩ := q1.z 0 _ rfl
      obtain ⟨k1_, f1_⟩ := q1.z 1 _ rfl
      obtain ⟨k2_, f2_⟩ := q1.z 2 _ rfl
      obtain ⟨k3_, f3_⟩ := q1.z 3 _ rfl
      obtain ⟨k4_, f4_⟩ := q1.z 4 _ rfl
      go_simp
      clear k0_ f0_ k1_ f1_ k2_ f2_ k3_ f3_ k4_ f4_
      have q2 := q1.store
      have hF9 : Fr w.heap.size (w.heap.size + 1) V1 (((((V1.setCell ⟨w.heap.size, 0, none⟩ (.slice A1 f.length c1)).setCell ⟨w.heap.size, 1, none⟩ (.slice (some ⟨ab, ao, none⟩) n.length c2)).setCell ⟨w.heap.size, 2, none⟩ (.slice A3 s.length c3)).setCell ⟨w.heap.size, 3, none⟩ (.slice A4 r.length c4)).setCell ⟨w.heap.size, 4, none⟩ (.slice A5 h.length c5)) := ((((((Fr.refl w.heap.size (w.heap.size + 1) V1).setCell (p := ⟨w.heap.size, 0, none⟩) ⟨Nat.le_refl _, Nat.lt_succ_self _⟩ (.slice A1 f.length c1)).setCell (p := ⟨w.heap.size, 1, none⟩) ⟨Nat.le_refl _, Nat.lt_succ_self _⟩ (.slice (some ⟨ab, ao, none⟩) n.length c2)).setCell (p := ⟨w.heap.size, 2, none⟩) ⟨Nat.le_refl _, Nat.lt_succ_self _⟩ (.slice A3 s.length c3)).setCell (p := ⟨w.heap.size, 3, none⟩) ⟨Nat.le_refl _, Nat.lt_succ_self _⟩ (.slice A4 r.length c4)).setCell (p := ⟨w.heap.size, 4, none⟩) ⟨Nat.le_refl _, Nat.lt_succ_self _⟩ (.slice A5 h.length c5))
      have h2n := (World.cell?_of_block (hF9.block pn (World.block_lt_of_cell? _ _ h1n) (by omega))).trans h1n
      have h2l : Ints (((((V1.setCell ⟨w.heap.size, 0, none⟩ (.slice A1 f.length c1)).setCell ⟨w.heap.size, 1, none⟩ (.slice (some ⟨ab, ao, none⟩) n.length c2)).setCell ⟨w.heap.size, 2, none⟩ (.slice A3 s.length c3)).setCell ⟨w.heap.size, 3, none⟩ (.slice A4 r.length c4)).setCell ⟨w.heap.size, 4, none⟩ (.slice A5 h.length c5)) nlo nhi (some ⟨nb, no, none⟩) NL := h1l.fr hF9 (by omega)
      clear hF9 h1n h1l
      refine hK.out _ _ ⟨(q2.x 0 _ rfl).1, (q2.x 1 _ rfl).1, (q2.x 2 _ rfl).1, (q2.x 3 _ rfl).1, (q2.x 4 _ rfl).1, h2n, h2l⟩ (fun _ => ?_)
      clear hK K
      simp only [List.setIfInBounds_toArray, List.set_cons_zero, List.set_cons_succ]
      clear q1
      generalize (((((V1.setCell ⟨w.heap.size, 0, none⟩ (.slice A1 f.length c1)).setCell ⟨w.heap.size, 1, none⟩ (.slice (some ⟨ab, ao, none⟩) n.length c2)).setCell ⟨w.heap.size, 2, none⟩ (.slice A3 s.length c3)).setCell ⟨w.heap.size, 3, none⟩ (.slice A4 r.length c4)).setCell ⟨w.heap.size, 4, none⟩ (.slice A5 h.length c5)) = V2 at q2 h2n h2l ⊢
      refine wpAnyH_takeL (i := 11) (v := .string y.nm) rfl (by kernel_rfl) (by kernel_rfl) (by kernel_rfl) (fun _ _ _ h => h) (Or.inl ⟨by rfl, fun w' hSw => by obtain ⟨z0, z1, z2, z3, z4, zn, zl⟩ := hSw; go_simp⟩) ⟨(q2.x 0 _ rfl).1, (q2.x 1 _ rfl).1, (q2.x 2 _ rfl).1, (q2.x 3 _ rfl).1, (q2.x 4 _ rfl).1, h2n, h2l⟩ ?_
      simp only [Act.put, List.setIfInBounds_toArray, List.set_cons_zero, List.set_cons_succ]
      refine wpAnyH_takeL (i := 12) (v := .int .i64 st_) rfl (by kernel_rfl) (by kernel_rfl) (by kernel_rfl) (fun _ _ _ h => h) (Or.inl ⟨by rfl, fun w' hSw => by obtain ⟨z0, z1, z2, z3, z4, zn, zl⟩ := hSw; go_simp⟩) ⟨(q2.x 0 _ rfl).1, (q2.x 1 _ rfl).1, (q2.x 2 _ rfl).1, (q2.x 3 _ rfl).1, (q2.x 4 _ rfl).1, h2n, h2l⟩ ?_
      simp only [Act.put, List.setIfInBounds_toArray, List.set_cons_zero, List.set_cons_succ]
      refine wpAnyH_done (by kernel_rfl) ?_ _
      have z0 := (q2.z 0 _ rfl).1
      have z1 := (q2.z 1 _ rfl).1
      have z2 := (q2.z 2 _ rfl).1
      have z3 := (q2.z 3 _ rfl).1
      have z4 := (q2.z 4 _ rfl).1
      go_wp2
      refine bodyPost_ret (by simp [results, Tryz.results29, go_sem, z0, z1, z2, z3, z4]; try rfl) rfl ?_
      exact ⟨A1, c1, f, some ⟨ab, ao, none⟩, c2, n, A3, c3, s, A4, c4, r, A5, c5, h, y.nm, st_, rfl, hyn, q2.e.ed.lift (by omega), q2.b⟩
set_option maxRecDepth 100000 in
set_option maxHeartbeats 40000000 in
theorem DrawStartEnds_any (A : Option Addr) (c : Nat) (l : List Int) (w : World) (hl : l.length ≤ maxLen) (hm : ∀ x ∈ l, 0 ≤ x ∧ x ≤ 255) (hS : Sl byE 1 w 0 w.heap.size A l) :
    Calls Tryz.prog 38 #[.slice A l.length c] w fun e w' => ∃ (B : Option Addr) (d : Nat) (L : List App), e = .returned (.slice B L.length d) ∧ L.length ≤ 13 ∧ (∀ y ∈ L, y.nm.size ≤ 7) ∧ Apps w' 0 w'.heap.size B L ∧ Below w.heap.size w w' := by
  have hC0 := Cur.new w A c l 86 w.heap.size rfl hS hm hl
  have hB : Below w.heap.size w (w.alloc (.cells #[.slice A l.length c, .int .i64 0, .int .u64 0] 86)) := by go_grown
  clear hS hl hm
  go_enter Tryz.func38, Tryz.ntmps38
  go_wp2_with fail
  refine (anyFleet_any w.heap.size A c l 0 4 _ hC0 (by omega) (by omega)).mono ?_
  rintro e w1 ⟨B, d, L, rfl, hL, hLm, hO, hC1, hFn⟩
  replace hB := hB.trans (hFn.below (B := w.heap.size) (Nat.le_refl _) hB.size)
  have hq := (hO.sl App.len).all
  clear hFn hC0 hC1 hO
  go_wp2
  go_ret
  exact ⟨B, d, L, rfl, hL, hLm, hq, hB⟩
end Go.Proofs.YtjmjilkpckbpeaaGreatDoor

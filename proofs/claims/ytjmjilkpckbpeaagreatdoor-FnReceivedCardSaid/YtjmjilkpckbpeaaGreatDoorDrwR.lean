/- The Draw functions over ends, for FnReceived: what they return, and that older blocks stay. No conditions. -/
import Derived.Test.YtjmjilkpckbpeaaGreatDoorDrwP
namespace Go.Proofs.YtjmjilkpckbpeaaGreatDoor
open Go.RowKit

set_option maxRecDepth 100000 in
set_option maxHeartbeats 40000000 in
theorem DrawBehindBy_any (A : Option Addr) (c : Nat) (l : List Int) (w : World) (hl : l.length ≤ maxLen) (hm : ∀ x ∈ l, 0 ≤ x ∧ x ≤ 255) (hS : Sl byE 1 w 0 w.heap.size A l) :
    Calls Tryz.prog 55 #[.slice A l.length c] w fun e w' => ∃ (A1 : Option Addr) (c1 : Nat) (f : List App) (A2 : Option Addr) (c2 : Nat) (n : List App) (A3 : Option Addr) (c3 : Nat) (s : List Msg) (A4 : Option Addr) (c4 : Nat) (r : List Msg) (A5 : Option Addr) (c5 : Nat) (h : List Msg) (nm : ByteArray), e = .returned (.tuple #[.agg #[.slice A1 f.length c1, .slice A2 n.length c2, .slice A3 s.length c3, .slice A4 r.length c4, .slice A5 h.length c5], .string nm]) ∧ nm.size ≤ 1048576 ∧ ED w.heap.size w' A1 c1 f A2 c2 n A3 c3 s A4 c4 r A5 c5 h ∧ Below w.heap.size w w' := by
  have hS0 := (hS.alloc (.cells #[.slice none 0 0, .slice none 0 0, .slice none 0 0, .slice none 0 0, .slice none 0 0] 52)).all
  have hC0 := Cur.new (w.alloc (.cells #[.slice none 0 0, .slice none 0 0, .slice none 0 0, .slice none 0 0, .slice none 0 0] 52)) A c l 86 (w.heap.size + 1) (by simp) hS0 hm hl
  have hR : BN w.heap.size [.slice none 0 0, .slice none 0 0, .slice none 0 0, .slice none 0 0, .slice none 0 0] ((w.alloc (.cells #[.slice none 0 0, .slice none 0 0, .slice none 0 0, .slice none 0 0, .slice none 0 0] 52)).alloc (.cells #[.slice A l.length c, .int .i64 0, .int .u64 0] 86)) := (BN.new w #[.slice none 0 0, .slice none 0 0, .slice none 0 0, .slice none 0 0, .slice none 0 0] 52 w.heap.size rfl).below (by simp) ((Below.refl _ _).alloc (Nat.le_refl _) (.cells #[.slice A l.length c, .int .i64 0, .int .u64 0] 86))
  have hB : Below w.heap.size w ((w.alloc (.cells #[.slice none 0 0, .slice none 0 0, .slice none 0 0, .slice none 0 0, .slice none 0 0] 52)).alloc (.cells #[.slice A l.length c, .int .i64 0, .int .u64 0] 86)) := by go_grown
  have hz : w.heap.size + 2 ≤ ((w.alloc (.cells #[.slice none 0 0, .slice none 0 0, .slice none 0 0, .slice none 0 0, .slice none 0 0] 52)).alloc (.cells #[.slice A l.length c, .int .i64 0, .int .u64 0] 86)).heap.size := by simp
  clear hS0 hl hm
  go_enter Tryz.func55, Tryz.ntmps55
  go_wp2_with fail
  refine (ends_any (w.heap.size + 1) A c l 0 _ hC0 (by omega)).mono ?_
  rintro e w1 ⟨A1, c1, f, A2, c2, n, A3, c3, s, A4, c4, r, A5, c5, h, rfl, hE, hC1, hFn⟩
  replace hE := hE.lift hz
  replace hR := hR.fr hFn (by simp) (.inl (by omega))
  replace hB := hB.trans (hFn.below (B := w.heap.size) (by omega) hB.size)
  replace hz := Nat.le_trans hz hFn.size
  clear hFn hC0
  have hcd : Sl byE 1 w1 0 w.heap.size A l := hS.keep (fun b _ hb => hB.block b hb) hB.size
  have q : RE w w1.heap.size A c l 700 A1 c1 f A2 c2 n A3 c3 s A4 c4 r A5 c5 h [.slice none 0 0, .slice none 0 0, .slice none 0 0, .slice none 0 0, .slice none 0 0] (w1.alloc (.cells #[.slice A1 f.length c1, .slice A2 n.length c2, .slice A3 s.length c3, .slice A4 r.length c4, .slice A5 h.length c5] 52)) := ⟨BN.new w1 #[.slice A1 f.length c1, .slice A2 n.length c2, .slice A3 s.length c3, .slice A4 r.length c4, .slice A5 h.length c5] 52 _ rfl, hE.eh.below ((Below.refl _ _).alloc (Nat.le_refl _) _), hR.below (by simp) ((Below.refl _ _).alloc (Nat.le_refl _) _), (hC1.more (by omega)).alloc _, hcd.keep (fun b _ hb => ((Below.refl w1.heap.size w1).alloc (Nat.le_refl _) _).block b (by omega)) (by simp), hB.alloc hB.size _, hz⟩
  clear hcd hE hR hC1 hB hS
  go_upto_region 3 with fail
  generalize w1.heap.size = bx at q ⊢
  generalize w1.alloc (.cells #[.slice A1 f.length c1, .slice A2 n.length c2, .slice A3 s.length c3, .slice A4 r.length c4, .slice A5 h.length c5] 52) = w1B at q ⊢
  have q1_ := q.below (by simp) (Below.refl _ _).drew
  refine wp_region_held_drew (S := (fun w' => w'.cell? ⟨bx, 0, none⟩ = some (.slice A1 f.length c1) ∧ w'.cell? ⟨bx, 1, none⟩ = some (.slice A2 n.length c2) ∧ w'.cell? ⟨bx, 2, none⟩ = some (.slice A3 s.length c3) ∧ w'.cell? ⟨bx, 3, none⟩ = some (.slice A4 r.length c4) ∧ w'.cell? ⟨bx, 4, none⟩ = some (.slice A5 h.length c5))) (by kernel_rfl) ⟨(q1_.x 0 _ rfl).1, (q1_.x 1 _ rfl).1, (q1_.x 2 _ rfl).1, (q1_.x 3 _ rfl).1, (q1_.x 4 _ rfl).1⟩ (fun hHeld => ?_)
  clear hHeld q
  generalize w1B.drew = V0 at q1_ ⊢
  have q0 := q1_
  clear q1_
  change wpAnyH _ _ _ _ _ 7 #[false, false, false, false, false, false, false] _ _
  refine wpAnyH_takeL (i := 0) (v := .agg #[.slice A1 f.length c1, .slice A2 n.length c2, .slice A3 s.length c3, .slice A4 r.length c4, .slice A5 h.length c5]) rfl (by kernel_rfl) (by kernel_rfl) (by kernel_rfl) (fun _ _ _ h => h) (Or.inl ⟨by rfl, fun w' hSw => by obtain ⟨z0, z1, z2, z3, z4⟩ := hSw; go_simp⟩) ⟨(q0.x 0 _ rfl).1, (q0.x 1 _ rfl).1, (q0.x 2 _ rfl).1, (q0.x 3 _ rfl).1, (q0.x 4 _ rfl).1⟩ ?_
  simp only [Act.put, List.setIfInBounds_toArray, List.set_cons_zero, List.set_cons_succ]
  refine wpAnyH_takeL (i := 1) (v := .pointer (some ⟨w.heap.size + 1, 0, none⟩)) rfl (by kernel_rfl) (by kernel_rfl) (by kernel_rfl) (fun _ _ _ h => h) (Or.inl ⟨by rfl, fun w' hSw => by obtain ⟨z0, z1, z2, z3, z4⟩ := hSw; go_simp⟩) ⟨(q0.x 0 _ rfl).1, (q0.x 1 _ rfl).1, (q0.x 2 _ rfl).1, (q0.x 3 _ rfl).1, (q0.x 4 _ rfl).1⟩ ?_
  simp only [Act.put, List.setIfInBounds_toArray, List.set_cons_zero, List.set_cons_succ]
  refine wpAnyH_takeL (i := 2) (v := .pointer (some ⟨bx, 1, none⟩)) rfl (by kernel_rfl) (by kernel_rfl) (by kernel_rfl) (fun _ _ _ h => h) (Or.inl ⟨by rfl, fun w' hSw => by obtain ⟨z0, z1, z2, z3, z4⟩ := hSw; go_simp⟩) ⟨(q0.x 0 _ rfl).1, (q0.x 1 _ rfl).1, (q0.x 2 _ rfl).1, (q0.x 3 _ rfl).1, (q0.x 4 _ rfl).1⟩ ?_
  simp only [Act.put, List.setIfInBounds_toArray, List.set_cons_zero, List.set_cons_succ]
  refine wpAnyH_takeL (i := 3) (v := .slice A2 n.length c2) rfl (by kernel_rfl) (by kernel_rfl) (by kernel_rfl) (fun _ _ _ h => h) (Or.inl ⟨by rfl, fun w' hSw => by obtain ⟨z0, z1, z2, z3, z4⟩ := hSw; go_simp⟩) ⟨(q0.x 0 _ rfl).1, (q0.x 1 _ rfl).1, (q0.x 2 _ rfl).1, (q0.x 3 _ rfl).1, (q0.x 4 _ rfl).1⟩ ?_
  simp only [Act.put, List.setIfInBounds_toArray, List.set_cons_zero, List.set_cons_succ]
  refine wpAnyH_ready (rs := [4]) (by kernel_rfl) (by simp) ?_
  refine AllReadyH.consL rfl (fun K hK => ?_) AllReadyH.nil
  go_simp
  refine (nameIn_any (w.heap.size + 1) A c l 700 A2 c2 n (w.heap.size + 2) _ _ q0.cur (by omega) q0.e.ea.ln q0.e.ea.mn q0.e.S2 (.inr (by omega))).mono ?_
  rintro e V1 ⟨nm, hnm, rfl, hC1, hFn⟩
  have q1 := q0.step (by simp) hFn hC1
  clear hFn hC1 q0
  go_simp
  refine hK.out _ _ ⟨(q1.x 0 _ rfl).1, (q1.x 1 _ rfl).1, (q1.x 2 _ rfl).1, (q1.x 3 _ rfl).1, (q1.x 4 _ rfl).1⟩ (fun _ => ?_)
  clear hK K
  simp only [List.setIfInBounds_toArray, List.set_cons_zero, List.set_cons_succ]
  refine wpAnyH_ready (rs := [5]) (by kernel_rfl) (by simp) ?_
  refine AllReadyH.consL rfl (fun K hK => ?_) AllReadyH.nil
  obtain ⟨k0_, f0_⟩ := q1.z 0 _ rfl
  obtain ⟨k1_, f1_⟩ := q1.z 1 _ rfl
  obtain ⟨k2_, f2_⟩ := q1.z 2 _ rfl
  obtain ⟨k3_, f3_⟩ := q1.z 3 _ rfl
  obtain ⟨k4_, f4_⟩ := q1.z 4 _ rfl
  go_simp
  clear k0_ f0_ k1_ f1_ k2_ f2_ k3_ f3_ k4_ f4_
  have q2 := q1.store
  refine hK.out _ _ ⟨(q2.x 0 _ rfl).1, (q2.x 1 _ rfl).1, (q2.x 2 _ rfl).1, (q2.x 3 _ rfl).1, (q2.x 4 _ rfl).1⟩ (fun _ => ?_)
  clear hK K
  simp only [List.setIfInBounds_toArray, List.set_cons_zero, List.set_cons_succ]
  clear q1
  generalize (((((V1.setCell ⟨w.heap.size, 0, none⟩ (.slice A1 f.length c1)).setCell ⟨w.heap.size, 1, none⟩ (.slice A2 n.length c2)).setCell ⟨w.heap.size, 2, none⟩ (.slice A3 s.length c3)).setCell ⟨w.heap.size, 3, none⟩ (.slice A4 r.length c4)).setCell ⟨w.heap.size, 4, none⟩ (.slice A5 h.length c5)) = V2 at q2 ⊢
  refine wpAnyH_takeL (i := 6) (v := .string nm) rfl (by kernel_rfl) (by kernel_rfl) (by kernel_rfl) (fun _ _ _ h => h) (Or.inl ⟨by rfl, fun w' hSw => by obtain ⟨z0, z1, z2, z3, z4⟩ := hSw; go_simp⟩) ⟨(q2.x 0 _ rfl).1, (q2.x 1 _ rfl).1, (q2.x 2 _ rfl).1, (q2.x 3 _ rfl).1, (q2.x 4 _ rfl).1⟩ ?_
  simp only [Act.put, List.setIfInBounds_toArray, List.set_cons_zero, List.set_cons_succ]
  refine wpAnyH_done (by kernel_rfl) ?_ _
  have z0 := (q2.z 0 _ rfl).1
  have z1 := (q2.z 1 _ rfl).1
  have z2 := (q2.z 2 _ rfl).1
  have z3 := (q2.z 3 _ rfl).1
  have z4 := (q2.z 4 _ rfl).1
  go_wp2
  refine bodyPost_ret (by simp [results, Tryz.results55, go_sem, z0, z1, z2, z3, z4]; try rfl) rfl ?_
  exact ⟨A1, c1, f, A2, c2, n, A3, c3, s, A4, c4, r, A5, c5, h, nm, rfl, hnm, q2.e.ed.lift (by omega), q2.b⟩
set_option maxRecDepth 100000 in
set_option maxHeartbeats 40000000 in
theorem DrawReceiveAt_any (A : Option Addr) (c : Nat) (l : List Int) (w : World) (hl : l.length ≤ maxLen) (hm : ∀ x ∈ l, 0 ≤ x ∧ x ≤ 255) (hS : Sl byE 1 w 0 w.heap.size A l) :
    Calls Tryz.prog 49 #[.slice A l.length c] w fun e w' => ∃ (A1 : Option Addr) (c1 : Nat) (f : List App) (A2 : Option Addr) (c2 : Nat) (n : List App) (A3 : Option Addr) (c3 : Nat) (s : List Msg) (A4 : Option Addr) (c4 : Nat) (r : List Msg) (A5 : Option Addr) (c5 : Nat) (h : List Msg) (i : Int), e = .returned (.tuple #[.agg #[.slice A1 f.length c1, .slice A2 n.length c2, .slice A3 s.length c3, .slice A4 r.length c4, .slice A5 h.length c5], .int .i64 i]) ∧ ED w.heap.size w' A1 c1 f A2 c2 n A3 c3 s A4 c4 r A5 c5 h ∧ Below w.heap.size w w' := by
  have hS0 := (hS.alloc (.cells #[.slice none 0 0, .slice none 0 0, .slice none 0 0, .slice none 0 0, .slice none 0 0] 52)).all
  have hC0 := Cur.new (w.alloc (.cells #[.slice none 0 0, .slice none 0 0, .slice none 0 0, .slice none 0 0, .slice none 0 0] 52)) A c l 86 (w.heap.size + 1) (by simp) hS0 hm hl
  have hR : BN w.heap.size [.slice none 0 0, .slice none 0 0, .slice none 0 0, .slice none 0 0, .slice none 0 0] ((w.alloc (.cells #[.slice none 0 0, .slice none 0 0, .slice none 0 0, .slice none 0 0, .slice none 0 0] 52)).alloc (.cells #[.slice A l.length c, .int .i64 0, .int .u64 0] 86)) := (BN.new w #[.slice none 0 0, .slice none 0 0, .slice none 0 0, .slice none 0 0, .slice none 0 0] 52 w.heap.size rfl).below (by simp) ((Below.refl _ _).alloc (Nat.le_refl _) (.cells #[.slice A l.length c, .int .i64 0, .int .u64 0] 86))
  have hB : Below w.heap.size w ((w.alloc (.cells #[.slice none 0 0, .slice none 0 0, .slice none 0 0, .slice none 0 0, .slice none 0 0] 52)).alloc (.cells #[.slice A l.length c, .int .i64 0, .int .u64 0] 86)) := by go_grown
  have hz : w.heap.size + 2 ≤ ((w.alloc (.cells #[.slice none 0 0, .slice none 0 0, .slice none 0 0, .slice none 0 0, .slice none 0 0] 52)).alloc (.cells #[.slice A l.length c, .int .i64 0, .int .u64 0] 86)).heap.size := by simp
  clear hS0 hl hm
  go_enter Tryz.func49, Tryz.ntmps49
  go_wp2_with fail
  refine (ends_any (w.heap.size + 1) A c l 0 _ hC0 (by omega)).mono ?_
  rintro e w1 ⟨A1, c1, f, A2, c2, n, A3, c3, s, A4, c4, r, A5, c5, h, rfl, hE, hC1, hFn⟩
  replace hE := hE.lift hz
  replace hR := hR.fr hFn (by simp) (.inl (by omega))
  replace hB := hB.trans (hFn.below (B := w.heap.size) (by omega) hB.size)
  replace hz := Nat.le_trans hz hFn.size
  clear hFn hC0
  have hcd : Sl byE 1 w1 0 w.heap.size A l := hS.keep (fun b _ hb => hB.block b hb) hB.size
  have q : RE w w1.heap.size A c l 700 A1 c1 f A2 c2 n A3 c3 s A4 c4 r A5 c5 h [.slice none 0 0, .slice none 0 0, .slice none 0 0, .slice none 0 0, .slice none 0 0] (w1.alloc (.cells #[.slice A1 f.length c1, .slice A2 n.length c2, .slice A3 s.length c3, .slice A4 r.length c4, .slice A5 h.length c5] 52)) := ⟨BN.new w1 #[.slice A1 f.length c1, .slice A2 n.length c2, .slice A3 s.length c3, .slice A4 r.length c4, .slice A5 h.length c5] 52 _ rfl, hE.eh.below ((Below.refl _ _).alloc (Nat.le_refl _) _), hR.below (by simp) ((Below.refl _ _).alloc (Nat.le_refl _) _), (hC1.more (by omega)).alloc _, hcd.keep (fun b _ hb => ((Below.refl w1.heap.size w1).alloc (Nat.le_refl _) _).block b (by omega)) (by simp), hB.alloc hB.size _, hz⟩
  clear hcd hE hR hC1 hB hS
  have hls : s.length ≤ 100 := q.e.ef.2.2.1.1
  have hwp : IntKind.i64.wrap ((s.length : Int) + 1) = (s.length : Int) + 1 := IntWalk.i64_in _ (by omega)
  have b0 := (q.x 0 _ rfl).1
  have b1 := (q.x 1 _ rfl).1
  have b2 := (q.x 2 _ rfl).1
  have b3 := (q.x 3 _ rfl).1
  have b4 := (q.x 4 _ rfl).1
  go_upto_region 4 with fail
  clear b0 b1 b2 b3 b4
  generalize w1.heap.size = bx at q ⊢
  generalize w1.alloc (.cells #[.slice A1 f.length c1, .slice A2 n.length c2, .slice A3 s.length c3, .slice A4 r.length c4, .slice A5 h.length c5] 52) = w1B at q ⊢
  have q1_ := q.below (by simp) (Below.refl _ _).drew
  refine wp_region_held_drew (S := (fun w' => w'.cell? ⟨bx, 0, none⟩ = some (.slice A1 f.length c1) ∧ w'.cell? ⟨bx, 1, none⟩ = some (.slice A2 n.length c2) ∧ w'.cell? ⟨bx, 2, none⟩ = some (.slice A3 s.length c3) ∧ w'.cell? ⟨bx, 3, none⟩ = some (.slice A4 r.length c4) ∧ w'.cell? ⟨bx, 4, none⟩ = some (.slice A5 h.length c5))) (by kernel_rfl) ⟨(q1_.x 0 _ rfl).1, (q1_.x 1 _ rfl).1, (q1_.x 2 _ rfl).1, (q1_.x 3 _ rfl).1, (q1_.x 4 _ rfl).1⟩ (fun hHeld => ?_)
  clear hHeld q
  generalize w1B.drew = V0 at q1_ ⊢
  have q0 := q1_
  clear q1_
  change wpAnyH _ _ _ _ _ 15 #[false, false, false, false, false, false, false, false, false, false, false, false, false, false, false] _ _
  refine wpAnyH_takeL (i := 0) (v := .agg #[.slice A1 f.length c1, .slice A2 n.length c2, .slice A3 s.length c3, .slice A4 r.length c4, .slice A5 h.length c5]) rfl (by kernel_rfl) (by kernel_rfl) (by kernel_rfl) (fun _ _ _ h => h) (Or.inl ⟨by rfl, fun w' hSw => by obtain ⟨z0, z1, z2, z3, z4⟩ := hSw; go_simp⟩) ⟨(q0.x 0 _ rfl).1, (q0.x 1 _ rfl).1, (q0.x 2 _ rfl).1, (q0.x 3 _ rfl).1, (q0.x 4 _ rfl).1⟩ ?_
  simp only [Act.put, List.setIfInBounds_toArray, List.set_cons_zero, List.set_cons_succ]
  refine wpAnyH_takeL (i := 1) (v := .pointer (some ⟨w.heap.size + 1, 0, none⟩)) rfl (by kernel_rfl) (by kernel_rfl) (by kernel_rfl) (fun _ _ _ h => h) (Or.inl ⟨by rfl, fun w' hSw => by obtain ⟨z0, z1, z2, z3, z4⟩ := hSw; go_simp⟩) ⟨(q0.x 0 _ rfl).1, (q0.x 1 _ rfl).1, (q0.x 2 _ rfl).1, (q0.x 3 _ rfl).1, (q0.x 4 _ rfl).1⟩ ?_
  simp only [Act.put, List.setIfInBounds_toArray, List.set_cons_zero, List.set_cons_succ]
  refine wpAnyH_takeL (i := 2) (v := .pointer (some ⟨w.heap.size + 1, 0, none⟩)) rfl (by kernel_rfl) (by kernel_rfl) (by kernel_rfl) (fun _ _ _ h => h) (Or.inl ⟨by rfl, fun w' hSw => by obtain ⟨z0, z1, z2, z3, z4⟩ := hSw; go_simp⟩) ⟨(q0.x 0 _ rfl).1, (q0.x 1 _ rfl).1, (q0.x 2 _ rfl).1, (q0.x 3 _ rfl).1, (q0.x 4 _ rfl).1⟩ ?_
  simp only [Act.put, List.setIfInBounds_toArray, List.set_cons_zero, List.set_cons_succ]
  refine wpAnyH_takeL (i := 3) (v := .int .i64 (s.length : Int)) rfl (by kernel_rfl) (by kernel_rfl) (by kernel_rfl) (fun _ _ _ h => h) (Or.inl ⟨by rfl, fun w' hSw => by obtain ⟨z0, z1, z2, z3, z4⟩ := hSw; go_simp⟩) ⟨(q0.x 0 _ rfl).1, (q0.x 1 _ rfl).1, (q0.x 2 _ rfl).1, (q0.x 3 _ rfl).1, (q0.x 4 _ rfl).1⟩ ?_
  simp only [Act.put, List.setIfInBounds_toArray, List.set_cons_zero, List.set_cons_succ]
  refine wpAnyH_takeL (i := 4) (v := .int .i64 ((s.length : Int) + 1)) rfl (by kernel_rfl) (by kernel_rfl) (by kernel_rfl) (fun _ _ _ h => h) (Or.inl ⟨by rfl, fun w' hSw => by obtain ⟨z0, z1, z2, z3, z4⟩ := hSw; go_simp⟩) ⟨(q0.x 0 _ rfl).1, (q0.x 1 _ rfl).1, (q0.x 2 _ rfl).1, (q0.x 3 _ rfl).1, (q0.x 4 _ rfl).1⟩ ?_
  simp only [Act.put, List.setIfInBounds_toArray, List.set_cons_zero, List.set_cons_succ]
  refine wpAnyH_takeL (i := 6) (v := .pointer (some ⟨w.heap.size + 1, 0, none⟩)) rfl (by kernel_rfl) (by kernel_rfl) (by kernel_rfl) (fun _ _ _ h => h) (Or.inl ⟨by rfl, fun w' hSw => by obtain ⟨z0, z1, z2, z3, z4⟩ := hSw; go_simp⟩) ⟨(q0.x 0 _ rfl).1, (q0.x 1 _ rfl).1, (q0.x 2 _ rfl).1, (q0.x 3 _ rfl).1, (q0.x 4 _ rfl).1⟩ ?_
  simp only [Act.put, List.setIfInBounds_toArray, List.set_cons_zero, List.set_cons_succ]
  refine wpAnyH_takeL (i := 7) (v := .int .i64 (s.length : Int)) rfl (by kernel_rfl) (by kernel_rfl) (by kernel_rfl) (fun _ _ _ h => h) (Or.inl ⟨by rfl, fun w' hSw => by obtain ⟨z0, z1, z2, z3, z4⟩ := hSw; go_simp⟩) ⟨(q0.x 0 _ rfl).1, (q0.x 1 _ rfl).1, (q0.x 2 _ rfl).1, (q0.x 3 _ rfl).1, (q0.x 4 _ rfl).1⟩ ?_
  simp only [Act.put, List.setIfInBounds_toArray, List.set_cons_zero, List.set_cons_succ]
  refine wpAnyH_takeL (i := 8) (v := .int .i64 ((s.length : Int) + 1)) rfl (by kernel_rfl) (by kernel_rfl) (by kernel_rfl) (fun _ _ _ h => h) (Or.inl ⟨by rfl, fun w' hSw => by obtain ⟨z0, z1, z2, z3, z4⟩ := hSw; go_simp⟩) ⟨(q0.x 0 _ rfl).1, (q0.x 1 _ rfl).1, (q0.x 2 _ rfl).1, (q0.x 3 _ rfl).1, (q0.x 4 _ rfl).1⟩ ?_
  simp only [Act.put, List.setIfInBounds_toArray, List.set_cons_zero, List.set_cons_succ]
  refine wpAnyH_takeL (i := 10) (v := .int .i64 (s.length : Int)) rfl (by kernel_rfl) (by kernel_rfl) (by kernel_rfl) (fun _ _ _ h => h) (Or.inl ⟨by rfl, fun w' hSw => by obtain ⟨z0, z1, z2, z3, z4⟩ := hSw; go_simp⟩) ⟨(q0.x 0 _ rfl).1, (q0.x 1 _ rfl).1, (q0.x 2 _ rfl).1, (q0.x 3 _ rfl).1, (q0.x 4 _ rfl).1⟩ ?_
  simp only [Act.put, List.setIfInBounds_toArray, List.set_cons_zero, List.set_cons_succ]
  refine wpAnyH_ready (rs := [5]) (by kernel_rfl) (by simp) ?_
  refine AllReadyH.consL rfl (fun K hK => ?_) AllReadyH.nil
  go_simp
  refine (pick_any (w.heap.size + 1) A c l 700 _ _ q0.cur (by omega) (by omega)).mono ?_
  rintro e V1 ⟨_, rfl, ⟨k1, rfl, _⟩, hC1, hFn⟩
  have q1 := q0.step (by simp) hFn hC1
  clear hFn hC1 q0
  go_simp
  refine hK.out _ _ ⟨(q1.x 0 _ rfl).1, (q1.x 1 _ rfl).1, (q1.x 2 _ rfl).1, (q1.x 3 _ rfl).1, (q1.x 4 _ rfl).1⟩ (fun _ => ?_)
  clear hK K
  simp only [List.setIfInBounds_toArray, List.set_cons_zero, List.set_cons_succ]
  refine wpAnyH_ready (rs := [9]) (by kernel_rfl) (by simp) ?_
  refine AllReadyH.consL rfl (fun K hK => ?_) AllReadyH.nil
  go_simp
  refine (pick_any (w.heap.size + 1) A c l (700 + 2) _ _ q1.cur (by omega) (by omega)).mono ?_
  rintro e V2 ⟨_, rfl, ⟨k2, rfl, _⟩, hC1, hFn⟩
  have q2 := q1.step (by simp) hFn hC1
  clear hFn hC1 q1
  go_simp
  refine hK.out _ _ ⟨(q2.x 0 _ rfl).1, (q2.x 1 _ rfl).1, (q2.x 2 _ rfl).1, (q2.x 3 _ rfl).1, (q2.x 4 _ rfl).1⟩ (fun _ => ?_)
  clear hK K
  simp only [List.setIfInBounds_toArray, List.set_cons_zero, List.set_cons_succ]
  refine wpAnyH_ready (rs := [11]) (by kernel_rfl) (by simp) ?_
  refine AllReadyH.consL rfl (fun K hK => ?_) AllReadyH.nil
  go_simp
  have q3 := q2.below (by simp) ((Below.refl V2.heap.size V2).alloc (Nat.le_refl _) (.cells #[.int .i64 0, .int .i64 (k1 : Int), .int .i64 (k2 : Int), .int .i64 (s.length : Int), .int .i64 (-1)] 3))
  refine hK.out _ _ ⟨(q3.x 0 _ rfl).1, (q3.x 1 _ rfl).1, (q3.x 2 _ rfl).1, (q3.x 3 _ rfl).1, (q3.x 4 _ rfl).1⟩ (fun _ => ?_)
  clear hK K
  simp only [List.setIfInBounds_toArray, List.set_cons_zero, List.set_cons_succ]
  have hLL := ints_lit V2 [0, (k1 : Int), (k2 : Int), (s.length : Int), (-1)] (#[.int .i64 0, .int .i64 (k1 : Int), .int .i64 (k2 : Int), .int .i64 (s.length : Int), .int .i64 (-1)] : Array Value) 3 _ rfl (by simp)
  obtain ⟨g, hg⟩ : ∃ g, g = V2.heap.size := ⟨_, rfl⟩
  rw [← hg] at hLL ⊢
  have hgp : w.heap.size + 1 < g := by have := q2.cur.lt; omega
  clear q2 hg
  generalize V2.alloc (.cells #[.int .i64 0, .int .i64 (k1 : Int), .int .i64 (k2 : Int), .int .i64 (s.length : Int), .int .i64 (-1)] 3) = V3 at q3 hLL ⊢
  refine wpAnyH_ready (rs := [12]) (by kernel_rfl) (by simp) ?_
  refine AllReadyH.consL rfl (fun K hK => ?_) AllReadyH.nil
  go_simp
  refine (among_any (w.heap.size + 1) A c l (700 + 2 + 2) _ 5 _ _ [0, (k1 : Int), (k2 : Int), (s.length : Int), (-1)] _ q3.cur (by omega) hLL (.inr hgp) (by simp) (by simp)).mono ?_
  rintro e V4 ⟨_, rfl, ⟨y, _, rfl⟩, hC1, hFn⟩
  have q4 := q3.step (by simp) hFn hC1
  clear hFn hC1 hLL q3
  go_simp
  refine hK.out _ _ ⟨(q4.x 0 _ rfl).1, (q4.x 1 _ rfl).1, (q4.x 2 _ rfl).1, (q4.x 3 _ rfl).1, (q4.x 4 _ rfl).1⟩ (fun _ => ?_)
  clear hK K
  simp only [List.setIfInBounds_toArray, List.set_cons_zero, List.set_cons_succ]
  refine wpAnyH_ready (rs := [13]) (by kernel_rfl) (by simp) ?_
  refine AllReadyH.consL rfl (fun K hK => ?_) AllReadyH.nil
  obtain ⟨k0_, f0_⟩ := q4.z 0 _ rfl
  obtain ⟨k1_, f1_⟩ := q4.z 1 _ rfl
  obtain ⟨k2_, f2_⟩ := q4.z 2 _ rfl
  obtain ⟨k3_, f3_⟩ := q4.z 3 _ rfl
  obtain ⟨k4_, f4_⟩ := q4.z 4 _ rfl
  go_simp
  clear k0_ f0_ k1_ f1_ k2_ f2_ k3_ f3_ k4_ f4_
  have q5 := q4.store
  refine hK.out _ _ ⟨(q5.x 0 _ rfl).1, (q5.x 1 _ rfl).1, (q5.x 2 _ rfl).1, (q5.x 3 _ rfl).1, (q5.x 4 _ rfl).1⟩ (fun _ => ?_)
  clear hK K
  simp only [List.setIfInBounds_toArray, List.set_cons_zero, List.set_cons_succ]
  clear q4
  generalize (((((V4.setCell ⟨w.heap.size, 0, none⟩ (.slice A1 f.length c1)).setCell ⟨w.heap.size, 1, none⟩ (.slice A2 n.length c2)).setCell ⟨w.heap.size, 2, none⟩ (.slice A3 s.length c3)).setCell ⟨w.heap.size, 3, none⟩ (.slice A4 r.length c4)).setCell ⟨w.heap.size, 4, none⟩ (.slice A5 h.length c5)) = V5 at q5 ⊢
  refine wpAnyH_takeL (i := 14) (v := .int .i64 y) rfl (by kernel_rfl) (by kernel_rfl) (by kernel_rfl) (fun _ _ _ h => h) (Or.inl ⟨by rfl, fun w' hSw => by obtain ⟨z0, z1, z2, z3, z4⟩ := hSw; go_simp⟩) ⟨(q5.x 0 _ rfl).1, (q5.x 1 _ rfl).1, (q5.x 2 _ rfl).1, (q5.x 3 _ rfl).1, (q5.x 4 _ rfl).1⟩ ?_
  simp only [Act.put, List.setIfInBounds_toArray, List.set_cons_zero, List.set_cons_succ]
  refine wpAnyH_done (by kernel_rfl) ?_ _
  have z0 := (q5.z 0 _ rfl).1
  have z1 := (q5.z 1 _ rfl).1
  have z2 := (q5.z 2 _ rfl).1
  have z3 := (q5.z 3 _ rfl).1
  have z4 := (q5.z 4 _ rfl).1
  go_wp2
  refine bodyPost_ret (by simp [results, Tryz.results49, go_sem, z0, z1, z2, z3, z4]; try rfl) rfl ?_
  exact ⟨A1, c1, f, A2, c2, n, A3, c3, s, A4, c4, r, A5, c5, h, y, rfl, q5.e.ed.lift (by omega), q5.b⟩
set_option maxRecDepth 100000 in
set_option maxHeartbeats 40000000 in
theorem DrawRunStates_any (A : Option Addr) (c : Nat) (l : List Int) (w : World) (hl : l.length ≤ maxLen) (hm : ∀ x ∈ l, 0 ≤ x ∧ x ≤ 255) (hS : Sl byE 1 w 0 w.heap.size A l) :
    Calls Tryz.prog 52 #[.slice A l.length c] w fun e w' => ∃ (A1 : Option Addr) (c1 : Nat) (f : List App) (A2 : Option Addr) (c2 : Nat) (n : List App) (A3 : Option Addr) (c3 : Nat) (s : List Msg) (A4 : Option Addr) (c4 : Nat) (r : List Msg) (A5 : Option Addr) (c5 : Nat) (h : List Msg) (p : ByteArray), e = .returned (.tuple #[.agg #[.slice A1 f.length c1, .slice A2 n.length c2, .slice A3 s.length c3, .slice A4 r.length c4, .slice A5 h.length c5], .string p]) ∧ p.size ≤ 100 ∧ ED w.heap.size w' A1 c1 f A2 c2 n A3 c3 s A4 c4 r A5 c5 h ∧ Below w.heap.size w w' := by
  have hS0 := (hS.alloc (.cells #[.slice none 0 0, .slice none 0 0, .slice none 0 0, .slice none 0 0, .slice none 0 0] 52)).all
  have hC0 := Cur.new (w.alloc (.cells #[.slice none 0 0, .slice none 0 0, .slice none 0 0, .slice none 0 0, .slice none 0 0] 52)) A c l 86 (w.heap.size + 1) (by simp) hS0 hm hl
  have hR : BN w.heap.size [.slice none 0 0, .slice none 0 0, .slice none 0 0, .slice none 0 0, .slice none 0 0] ((w.alloc (.cells #[.slice none 0 0, .slice none 0 0, .slice none 0 0, .slice none 0 0, .slice none 0 0] 52)).alloc (.cells #[.slice A l.length c, .int .i64 0, .int .u64 0] 86)) := (BN.new w #[.slice none 0 0, .slice none 0 0, .slice none 0 0, .slice none 0 0, .slice none 0 0] 52 w.heap.size rfl).below (by simp) ((Below.refl _ _).alloc (Nat.le_refl _) (.cells #[.slice A l.length c, .int .i64 0, .int .u64 0] 86))
  have hB : Below w.heap.size w ((w.alloc (.cells #[.slice none 0 0, .slice none 0 0, .slice none 0 0, .slice none 0 0, .slice none 0 0] 52)).alloc (.cells #[.slice A l.length c, .int .i64 0, .int .u64 0] 86)) := by go_grown
  have hz : w.heap.size + 2 ≤ ((w.alloc (.cells #[.slice none 0 0, .slice none 0 0, .slice none 0 0, .slice none 0 0, .slice none 0 0] 52)).alloc (.cells #[.slice A l.length c, .int .i64 0, .int .u64 0] 86)).heap.size := by simp
  clear hS0 hl hm
  go_enter Tryz.func52, Tryz.ntmps52
  go_wp2_with fail
  refine (ends_any (w.heap.size + 1) A c l 0 _ hC0 (by omega)).mono ?_
  rintro e w1 ⟨A1, c1, f, A2, c2, n, A3, c3, s, A4, c4, r, A5, c5, h, rfl, hE, hC1, hFn⟩
  replace hE := hE.lift hz
  replace hR := hR.fr hFn (by simp) (.inl (by omega))
  replace hB := hB.trans (hFn.below (B := w.heap.size) (by omega) hB.size)
  replace hz := Nat.le_trans hz hFn.size
  clear hFn hC0
  have hcd : Sl byE 1 w1 0 w.heap.size A l := hS.keep (fun b _ hb => hB.block b hb) hB.size
  have q : RE w w1.heap.size A c l 700 A1 c1 f A2 c2 n A3 c3 s A4 c4 r A5 c5 h [.slice none 0 0, .slice none 0 0, .slice none 0 0, .slice none 0 0, .slice none 0 0] (w1.alloc (.cells #[.slice A1 f.length c1, .slice A2 n.length c2, .slice A3 s.length c3, .slice A4 r.length c4, .slice A5 h.length c5] 52)) := ⟨BN.new w1 #[.slice A1 f.length c1, .slice A2 n.length c2, .slice A3 s.length c3, .slice A4 r.length c4, .slice A5 h.length c5] 52 _ rfl, hE.eh.below ((Below.refl _ _).alloc (Nat.le_refl _) _), hR.below (by simp) ((Below.refl _ _).alloc (Nat.le_refl _) _), (hC1.more (by omega)).alloc _, hcd.keep (fun b _ hb => ((Below.refl w1.heap.size w1).alloc (Nat.le_refl _) _).block b (by omega)) (by simp), hB.alloc hB.size _, hz⟩
  clear hcd hE hR hC1 hB hS
  go_wp2_with fail
  generalize w1.heap.size = bx at q ⊢
  refine (pick_any (w.heap.size + 1) A c l 700 8 _ q.cur (by omega) (by omega)).mono ?_
  rintro e w2 ⟨_, rfl, ⟨k1, rfl, hk1⟩, hC1, hFn⟩
  replace q := q.step (by simp) hFn hC1
  have hk1' : k1 ≤ 62 := by omega
  clear hFn hC1 hk1
  go_wp2_with fail
  refine (one_any (w.heap.size + 1) A c l (700 + 2) 12 _ q.cur (by omega) (by omega)).mono ?_
  rintro e w3 ⟨_, rfl, ⟨b, rfl⟩, hC1, hFn⟩
  replace q := q.step (by simp) hFn hC1
  clear hFn hC1
  go_upto_if 16 with fail
  go_cut [7] from 8 (fun n_ wx => ∃ k : Nat, n_ = .int .i64 k ∧ k ≤ 62 ∧ RE w bx A c l 710 A1 c1 f A2 c2 n A3 c3 s A4 c4 r A5 c5 h [.slice none 0 0, .slice none 0 0, .slice none 0 0, .slice none 0 0, .slice none 0 0] wx)
  case first =>
    cases b with
    | false =>
      go_wp2_with fail
      go_meet
      exact ⟨k1, rfl, hk1', q.more (by omega)⟩
    | true =>
      go_wp2_with fail
      refine (pick_any (w.heap.size + 1) A c l (700 + 2 + 2) 2 _ q.cur (by omega) (by omega)).mono ?_
      rintro e w4 ⟨_, rfl, ⟨k2, rfl, hk2⟩, hC1, hFn⟩
      replace q := q.step (by simp) hFn hC1
      have hk2' : k2 ≤ 2 := by omega
      clear hFn hC1 hk2
      go_wp2_with fail
      go_meet
      exact ⟨40 + k2, by first | go_num | (congr 1; omega), by omega, q.more (by omega)⟩
  case rest =>
    clear q hk1'
    obtain ⟨k, rfl, hk, q⟩ := hcut
    go_wp2_with fail
    go_loopw [6] (fun v wr => ∃ u : ByteArray, v = .string u ∧ u.size ≤ 62 ∧ RE w bx A c l (710 + 2 * u.size) A1 c1 f A2 c2 n A3 c3 s A4 c4 r A5 c5 h [.slice none 0 0, .slice none 0 0, .slice none 0 0, .slice none 0 0, .slice none 0 0] wr) (fun v _ => 63 - lenS v)
    case atStart => exact ⟨⟨#[]⟩, rfl, Nat.zero_le _, q⟩
    case round =>
      clear q
      obtain ⟨u, rfl, hu, q⟩ := hrel
      by_cases hlt : u.size < k
      · have hlt' : (u.size : Int) < (k : Int) := by omega
        go_wp2_with fail
        refine (of_one (w.heap.size + 1) A c l (710 + 2 * u.size) [⟨#[97]⟩, ⟨#[98]⟩, ⟨#[99]⟩, ⟨#[100]⟩, ⟨#[101]⟩, ⟨#[122]⟩] 6 rfl (by decide) _ _ _ _ (by simp) rfl q.cur (by omega) (by simp) (by simp)).mono ?_
        rintro e w5 ⟨y, hy, rfl, hC1, hFn⟩
        have q5 := q.step (by simp) hFn hC1
        clear q hFn hC1
        go_wp2_with fail
        go_roundw
        case rel => exact ⟨u ++ y, rfl, by rw [ByteArray.size_append]; omega, q5.more (by rw [ByteArray.size_append]; omega)⟩
        case measure => simp [lenS, ByteArray.size_append]; omega
      · have hlt' : ¬ (u.size : Int) < (k : Int) := by omega
        obtain ⟨N0, hN0⟩ : ∃ N0, N0 = 710 + 2 * u.size := ⟨_, rfl⟩
        have hN1 : N0 ≤ 900 := by omega
        rw [← hN0] at q
        clear hN0
        go_wp2_with fail
        refine (one_any (w.heap.size + 1) A c l N0 24 _ q.cur (by omega) (by omega)).mono ?_
        rintro e w5 ⟨_, rfl, ⟨b2, rfl⟩, hC1, hFn⟩
        replace q := q.step (by simp) hFn hC1
        clear hFn hC1 hlt hlt'
        cases b2 with
        | false =>
          have b0 := (q.x 0 _ rfl).1
          have b1 := (q.x 1 _ rfl).1
          have b2 := (q.x 2 _ rfl).1
          have b3 := (q.x 3 _ rfl).1
          have b4 := (q.x 4 _ rfl).1
          have y0 := (q.z 0 _ rfl).1
          have u0 := (q.z 0 _ rfl).2
          have y1 := (q.z 1 _ rfl).1
          have u1 := (q.z 1 _ rfl).2
          have y2 := (q.z 2 _ rfl).1
          have u2 := (q.z 2 _ rfl).2
          have y3 := (q.z 3 _ rfl).1
          have u3 := (q.z 3 _ rfl).2
          have y4 := (q.z 4 _ rfl).1
          have u4 := (q.z 4 _ rfl).2
          have q9 := q.store
          have z0 := (q9.z 0 _ rfl).1
          have z1 := (q9.z 1 _ rfl).1
          have z2 := (q9.z 2 _ rfl).1
          have z3 := (q9.z 3 _ rfl).1
          have z4 := (q9.z 4 _ rfl).1
          go_wp2
          refine bodyPost_ret (by simp [results, Tryz.results52, go_sem, z0, z1, z2, z3, z4]; try rfl) rfl ?_
          exact ⟨A1, c1, f, A2, c2, n, A3, c3, s, A4, c4, r, A5, c5, h, u, rfl, by omega, q9.e.ed.lift (by omega), q9.b⟩
        | true =>
          go_upto_region 10 with fail
          have q1_ := q.below (by simp) (Below.refl _ _).drew
          refine wp_region_held_drew (S := (fun w' => w'.cell? ⟨bx, 0, none⟩ = some (.slice A1 f.length c1) ∧ w'.cell? ⟨bx, 1, none⟩ = some (.slice A2 n.length c2) ∧ w'.cell? ⟨bx, 2, none⟩ = some (.slice A3 s.length c3) ∧ w'.cell? ⟨bx, 3, none⟩ = some (.slice A4 r.length c4) ∧ w'.cell? ⟨bx, 4, none⟩ = some (.slice A5 h.length c5))) (by kernel_rfl) ⟨(q1_.x 0 _ rfl).1, (q1_.x 1 _ rfl).1, (q1_.x 2 _ rfl).1, (q1_.x 3 _ rfl).1, (q1_.x 4 _ rfl).1⟩ (fun hHeld => ?_)
          clear hHeld q
          generalize w5.drew = V0 at q1_ ⊢
          have q0 := q1_
          clear q1_
          change wpAnyH _ _ _ _ _ 8 #[false, false, false, false, false, false, false, false] _ _
          refine wpAnyH_takeL (i := 0) (v := .agg #[.slice A1 f.length c1, .slice A2 n.length c2, .slice A3 s.length c3, .slice A4 r.length c4, .slice A5 h.length c5]) rfl (by kernel_rfl) (by kernel_rfl) (by kernel_rfl) (fun _ _ _ h => h) (Or.inl ⟨by rfl, fun w' hSw => by obtain ⟨z0, z1, z2, z3, z4⟩ := hSw; go_simp⟩) ⟨(q0.x 0 _ rfl).1, (q0.x 1 _ rfl).1, (q0.x 2 _ rfl).1, (q0.x 3 _ rfl).1, (q0.x 4 _ rfl).1⟩ ?_
          simp only [Act.put, List.setIfInBounds_toArray, List.set_cons_zero, List.set_cons_succ]
          refine wpAnyH_takeL (i := 1) (v := .string u) rfl (by kernel_rfl) (by kernel_rfl) (by kernel_rfl) (fun _ _ _ h => h) (Or.inl ⟨by rfl, fun w' hSw => by obtain ⟨z0, z1, z2, z3, z4⟩ := hSw; go_simp⟩) ⟨(q0.x 0 _ rfl).1, (q0.x 1 _ rfl).1, (q0.x 2 _ rfl).1, (q0.x 3 _ rfl).1, (q0.x 4 _ rfl).1⟩ ?_
          simp only [Act.put, List.setIfInBounds_toArray, List.set_cons_zero, List.set_cons_succ]
          refine wpAnyH_takeL (i := 2) (v := .pointer (some ⟨w.heap.size + 1, 0, none⟩)) rfl (by kernel_rfl) (by kernel_rfl) (by kernel_rfl) (fun _ _ _ h => h) (Or.inl ⟨by rfl, fun w' hSw => by obtain ⟨z0, z1, z2, z3, z4⟩ := hSw; go_simp⟩) ⟨(q0.x 0 _ rfl).1, (q0.x 1 _ rfl).1, (q0.x 2 _ rfl).1, (q0.x 3 _ rfl).1, (q0.x 4 _ rfl).1⟩ ?_
          simp only [Act.put, List.setIfInBounds_toArray, List.set_cons_zero, List.set_cons_succ]
          refine wpAnyH_ready (rs := [3]) (by kernel_rfl) (by simp) ?_
          refine AllReadyH.consL rfl (fun K hK => ?_) AllReadyH.nil
          go_simp
          have q1 := q0.below (by simp) ((Below.refl V0.heap.size V0).alloc (Nat.le_refl _) (.cells #[.string ⟨#[65]⟩, .string ⟨#[49]⟩] 9))
          refine hK.out _ _ ⟨(q1.x 0 _ rfl).1, (q1.x 1 _ rfl).1, (q1.x 2 _ rfl).1, (q1.x 3 _ rfl).1, (q1.x 4 _ rfl).1⟩ (fun _ => ?_)
          clear hK K
          simp only [List.setIfInBounds_toArray, List.set_cons_zero, List.set_cons_succ]
          have hLL := strs_lit V0 [⟨#[65]⟩, ⟨#[49]⟩] #[.string ⟨#[65]⟩, .string ⟨#[49]⟩] 9 _ rfl (by simp)
          obtain ⟨g, hg⟩ : ∃ g, g = V0.heap.size := ⟨_, rfl⟩
          rw [← hg] at hLL ⊢
          have hgp : w.heap.size + 1 < g := by have := q0.cur.lt; omega
          clear q0 hg
          generalize V0.alloc (.cells #[.string ⟨#[65]⟩, .string ⟨#[49]⟩] 9) = V1 at q1 hLL ⊢
          refine wpAnyH_ready (rs := [4]) (by kernel_rfl) (by simp) ?_
          refine AllReadyH.consL rfl (fun K hK => ?_) AllReadyH.nil
          go_simp
          refine (of_any (w.heap.size + 1) A c l (N0 + 2) _ 2 _ _ [⟨#[65]⟩, ⟨#[49]⟩] _ q1.cur (by omega) hLL (.inr hgp) (by simp) (by simp)).mono ?_
          rintro e V2 ⟨_, rfl, ⟨y, hy, rfl⟩, hC1, hFn⟩
          have hy1 : y.size = 1 := by simp only [List.mem_cons, List.not_mem_nil, or_false] at hy; rcases hy with rfl | rfl <;> rfl
          have q2 := q1.step (by simp) hFn hC1
          clear hFn hC1 hLL hy q1
          go_simp
          refine hK.out _ _ ⟨(q2.x 0 _ rfl).1, (q2.x 1 _ rfl).1, (q2.x 2 _ rfl).1, (q2.x 3 _ rfl).1, (q2.x 4 _ rfl).1⟩ (fun _ => ?_)
          clear hK K
          simp only [List.setIfInBounds_toArray, List.set_cons_zero, List.set_cons_succ]
          refine wpAnyH_takeL (i := 5) (v := .string (u ++ y)) rfl (by kernel_rfl) (by kernel_rfl) (by kernel_rfl) (fun _ _ _ h => h) (Or.inl ⟨by rfl, fun w' hSw => by obtain ⟨z0, z1, z2, z3, z4⟩ := hSw; go_simp <;> omega⟩) ⟨(q2.x 0 _ rfl).1, (q2.x 1 _ rfl).1, (q2.x 2 _ rfl).1, (q2.x 3 _ rfl).1, (q2.x 4 _ rfl).1⟩ ?_
          simp only [Act.put, List.setIfInBounds_toArray, List.set_cons_zero, List.set_cons_succ]
          refine wpAnyH_ready (rs := [6]) (by kernel_rfl) (by simp) ?_
          refine AllReadyH.consL rfl (fun K hK => ?_) AllReadyH.nil
          obtain ⟨k0_, f0_⟩ := q2.z 0 _ rfl
          obtain ⟨k1_, f1_⟩ := q2.z 1 _ rfl
          obtain ⟨k2_, f2_⟩ := q2.z 2 _ rfl
          obtain ⟨k3_, f3_⟩ := q2.z 3 _ rfl
          obtain ⟨k4_, f4_⟩ := q2.z 4 _ rfl
          go_simp
          clear k0_ f0_ k1_ f1_ k2_ f2_ k3_ f3_ k4_ f4_
          have q3 := q2.store
          refine hK.out _ _ ⟨(q3.x 0 _ rfl).1, (q3.x 1 _ rfl).1, (q3.x 2 _ rfl).1, (q3.x 3 _ rfl).1, (q3.x 4 _ rfl).1⟩ (fun _ => ?_)
          clear hK K
          simp only [List.setIfInBounds_toArray, List.set_cons_zero, List.set_cons_succ]
          clear q2
          generalize (((((V2.setCell ⟨w.heap.size, 0, none⟩ (.slice A1 f.length c1)).setCell ⟨w.heap.size, 1, none⟩ (.slice A2 n.length c2)).setCell ⟨w.heap.size, 2, none⟩ (.slice A3 s.length c3)).setCell ⟨w.heap.size, 3, none⟩ (.slice A4 r.length c4)).setCell ⟨w.heap.size, 4, none⟩ (.slice A5 h.length c5)) = V3 at q3 ⊢
          refine wpAnyH_takeL (i := 7) (v := .string (u ++ y)) rfl (by kernel_rfl) (by kernel_rfl) (by kernel_rfl) (fun _ _ _ h => h) (Or.inl ⟨by rfl, fun w' hSw => by obtain ⟨z0, z1, z2, z3, z4⟩ := hSw; go_simp⟩) ⟨(q3.x 0 _ rfl).1, (q3.x 1 _ rfl).1, (q3.x 2 _ rfl).1, (q3.x 3 _ rfl).1, (q3.x 4 _ rfl).1⟩ ?_
          simp only [Act.put, List.setIfInBounds_toArray, List.set_cons_zero, List.set_cons_succ]
          refine wpAnyH_done (by kernel_rfl) ?_ _
          have z0 := (q3.z 0 _ rfl).1
          have z1 := (q3.z 1 _ rfl).1
          have z2 := (q3.z 2 _ rfl).1
          have z3 := (q3.z 3 _ rfl).1
          have z4 := (q3.z 4 _ rfl).1
          go_wp2
          refine bodyPost_ret (by simp [results, Tryz.results52, go_sem, z0, z1, z2, z3, z4]; try rfl) rfl ?_
          exact ⟨A1, c1, f, A2, c2, n, A3, c3, s, A4, c4, r, A5, c5, h, u ++ y, rfl, by rw [ByteArray.size_append]; omega, q3.e.ed.lift (by omega), q3.b⟩
set_option maxRecDepth 100000 in
set_option maxHeartbeats 40000000 in
theorem DrawStateBody_any (A : Option Addr) (c : Nat) (l : List Int) (w : World) (hl : l.length ≤ maxLen) (hm : ∀ x ∈ l, 0 ≤ x ∧ x ≤ 255) (hS : Sl byE 1 w 0 w.heap.size A l) :
    Calls Tryz.prog 56 #[.slice A l.length c] w fun e w' => ∃ v : Int, e = .returned (.int .i64 v) ∧ Below w.heap.size w w' := by
  have hC0 := Cur.new w A c l 86 w.heap.size rfl hS hm hl
  have hB : Below w.heap.size w (w.alloc (.cells #[.slice A l.length c, .int .i64 0, .int .u64 0] 86)) := by go_grown
  clear hS hl hm
  go_enter Tryz.func56, Tryz.ntmps56
  go_wp2_with fail
  refine (stateOf_any w.heap.size A c l 0 _ hC0 (by omega)).mono ?_
  rintro e w1 ⟨v, rfl, hC1, hFn⟩
  replace hB := hB.trans (hFn.below (B := w.heap.size) (Nat.le_refl _) hB.size)
  clear hFn hC0 hC1
  go_wp2
  go_ret
  exact ⟨v, rfl, hB⟩
set_option maxRecDepth 100000 in
set_option maxHeartbeats 40000000 in
theorem DrawParseStateBody_any (A : Option Addr) (c : Nat) (l : List Int) (w : World) (hl : l.length ≤ maxLen) (hm : ∀ x ∈ l, 0 ≤ x ∧ x ≤ 255) (hS : Sl byE 1 w 0 w.heap.size A l) :
    Calls Tryz.prog 58 #[.slice A l.length c] w fun e w' => ∃ s : ByteArray, s.size ≤ 100 ∧ e = .returned (.string s) ∧ Below w.heap.size w w' := by
  have hC0 := Cur.new w A c l 86 w.heap.size rfl hS hm hl
  have hB : Below w.heap.size w (w.alloc (.cells #[.slice A l.length c, .int .i64 0, .int .u64 0] 86)) := by go_grown
  clear hS hl hm
  go_enter Tryz.func58, Tryz.ntmps58
  go_wp2_with fail
  refine (pick_any w.heap.size A c l 0 6 _ hC0 (by omega) (by omega)).mono ?_
  rintro e w1 ⟨_, rfl, ⟨k, rfl, hk⟩, hC1, hFn⟩
  replace hB := hB.trans (hFn.below (B := w.heap.size) (Nat.le_refl _) hB.size)
  clear hFn hC0
  have hz : (stT k).size ≤ 100 := by
    rcases (by omega : k = 0 ∨ k = 1 ∨ k = 2 ∨ k = 3 ∨ k = 4 ∨ k = 5) with rfl | rfl | rfl | rfl | rfl | rfl <;> decide +kernel
  go_wp2_with fail
  refine (stBody_a k (by omega) (by omega) _).mono ?_
  rintro e w2 ⟨rfl, hb⟩
  replace hC1 := hC1.below hb
  replace hB := Below.on' hB hb
  clear hb
  generalize stT k = u at hz ⊢
  go_wp2_with fail
  refine (of_lit w.heap.size A c l (0 + 2) [⟨#[115, 116, 97, 116, 101, 32, 48]⟩, ⟨#[115, 116, 97, 116, 101, 32, 51]⟩, ⟨#[115, 116, 97, 116, 101, 32, 53]⟩, ⟨#[115, 116, 97, 116, 101, 32, 54]⟩, ⟨#[115, 116, 97, 116, 101]⟩, ⟨#[115, 116, 97, 116, 101, 32, 48, 51]⟩, ⟨#[83, 116, 97, 116, 101, 32, 49]⟩, ⟨#[]⟩, u] 9 rfl 100 (List.forall_mem_cons.2 ⟨(by decide), (List.forall_mem_cons.2 ⟨(by decide), (List.forall_mem_cons.2 ⟨(by decide), (List.forall_mem_cons.2 ⟨(by decide), (List.forall_mem_cons.2 ⟨(by decide), (List.forall_mem_cons.2 ⟨(by decide), (List.forall_mem_cons.2 ⟨(by decide), (List.forall_mem_cons.2 ⟨(by decide), (List.forall_mem_cons.2 ⟨hz, (fun _ h => nomatch h)⟩)⟩)⟩)⟩)⟩)⟩)⟩)⟩)⟩) _ _ _ _ (by simp) rfl hC1 (by omega) (by simp) (by simp)).mono ?_
  rintro e w3 ⟨v, hv, rfl, _, hFn⟩
  replace hB := hB.trans (hFn.below (B := w.heap.size) (Nat.le_refl _) hB.size)
  clear hFn hC1
  go_wp2
  go_ret
  exact ⟨v, hv, rfl, hB⟩
end Go.Proofs.YtjmjilkpckbpeaaGreatDoor

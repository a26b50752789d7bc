/- The reference's numerals. No conditions. -/
import Derived.Test.YtjmjilkpckbpeaaGreatDoorLA
import Derived.Lib.ItoaNum
namespace Go.Proofs.YtjmjilkpckbpeaaGreatDoor
open Go.RowKit

def numT (n : Nat) : ByteArray := if n < 10 then digT n else numT (n / 10) ++ digT ((n : Int) % 10)
theorem numT_size (n : Nat) : (numT n).size ≤ n + 1 := by
  rw [numT]
  split
  · show 1 ≤ n + 1; omega
  · have := numT_size (n / 10)
    rw [ByteArray.size_append]
    have h2 : (digT ((n : Int) % 10)).size = 1 := rfl
    omega
termination_by n
decreasing_by omega
theorem numT_dec (n : Nat) : (numT n).data.toList = Lib.decDigits n := by
  rw [numT, Lib.decDigits]
  split
  · simp [digT]
  · have h : ((n : Int) % 10).toNat = n % 10 := by omega
    rw [ByteArray.data_append, Array.toList_append, numT_dec (n / 10)]
    simp [digT, h]
termination_by n
decreasing_by omega
theorem backG (W : World) (g : Nat) (n : Int) (h : 0 ≤ n ∧ n ≤ 9) (hc : W.cell? ⟨g, 0, none⟩ = some (.int .u8 (48 + n))) : (convert 22 9 (.slice (some ⟨g, 0, none⟩) 1 1)).run Tryz.prog W = .ok (.string (digT n)) W :=
  run_convert_bytes_back (P := Tryz.prog) W 22 9 5 ⟨g, 0, none⟩ 1 [UInt8.ofNat (48 + n.toNat)] Tryz.underlying22 Tryz.underlying5 Tryz.underlying9 (fun j hj => by
    cases j with
    | zero =>
      have e : ((UInt8.ofNat (48 + n.toNat)).toNat : Int) = 48 + n := by
        rw [UInt8.toNat_ofNat']
        omega
      show W.cell? ⟨g, 0, none⟩ = some (Value.int IntKind.u8 (((UInt8.ofNat (48 + n.toNat)).toNat : Nat) : Int))
      rw [e]
      exact hc
    | succ j => simp at hj)
set_option maxRecDepth 100000 in
set_option maxHeartbeats 4000000 in
theorem l1Num_any (n : Nat) (hn : n ≤ 4611686018427387904) (w : World) : Calls Tryz.prog 139 #[.int .i64 n] w (RV w (.string (numT n))) := by
  by_cases h : n < 10
  · rw [show numT n = digT n by rw [numT, if_pos h]]
    exact l1Num_1 n (by omega) (by omega) w
  obtain ⟨q, hq⟩ : ∃ q : Nat, Hid (q = n / 10) := ⟨_, Lib.hid rfl⟩
  obtain ⟨d, em⟩ : ∃ d : Int, (n : Int) % 10 = d := ⟨_, rfl⟩
  have ih : ∀ W, Calls Tryz.prog 139 #[.int .i64 q] W (RV W (.string (numT q))) := fun W => by
    rw [hq.out]
    exact l1Num_any (n / 10) (by omega) W
  have HN : Hid (numT n = numT q ++ digT d) := Lib.hid (by rw [numT, if_neg h, hq.out, em])
  have hm : 0 ≤ d ∧ d ≤ 9 := by omega
  have h10 : ¬ (n : Int) < 10 := by omega
  have hw8 : IntKind.u8.wrap (48 + d) = 48 + d := IntWalk.u8_in _ (by omega)
  have hw6 : IntKind.i64.wrap (48 + d) = 48 + d := IntWalk.i64_in _ (by omega)
  have ed : (n : Int) / 10 = q := by have := hq.out; omega
  have hq6 : IntKind.i64.wrap (q : Int) = q := IntWalk.i64_in _ (by have := hq.out; omega)
  have hd6 : IntKind.i64.wrap d = d := IntWalk.i64_in _ (by omega)
  have et : (n : Int).tmod 10 = d := by rw [Int.tmod_eq_emod_of_nonneg (by omega)]; exact em
  have hsz : (numT q).size + (digT d).size ≤ 9223372036854775807 := by have h1 := numT_size q; have h2 : (digT d).size = 1 := rfl; have := hq.out; omega
  clear hq
  go_enter Tryz.func139, Tryz.ntmps139
  go_upto_region 3 with fail
  refine wp_region_held_drew (S := fun _ => True) (by kernel_rfl) trivial (fun _ => ?_)
  have hB0 : Below w.heap.size w w.drew := (Below.refl _ _).drew
  generalize w.drew = W0 at hB0 ⊢
  change wpAnyH _ _ _ _ _ 11 #[false, false, false, false, false, false, false, false, false, false, false] _ _
  refine wpAnyH_takeL (i := 0) (v := .int .i64 n) rfl (by kernel_rfl) (by kernel_rfl) (by kernel_rfl) (fun _ _ _ h => h) (Or.inl ⟨by rfl, fun w' _ => by go_simp⟩) trivial ?_
  simp only [Act.put, List.setIfInBounds_toArray, List.set_cons_zero, List.set_cons_succ]
  refine wpAnyH_takeL (i := 1) (v := .int .i64 q) rfl (by kernel_rfl) (by kernel_rfl) (by kernel_rfl) (fun _ _ _ h => h) (Or.inl ⟨by rfl, fun w' _ => by go_simp⟩) trivial ?_
  simp only [Act.put, List.setIfInBounds_toArray, List.set_cons_zero, List.set_cons_succ]
  refine wpAnyH_takeL (i := 3) (v := .int .i64 n) rfl (by kernel_rfl) (by kernel_rfl) (by kernel_rfl) (fun _ _ _ h => h) (Or.inl ⟨by rfl, fun w' _ => by go_simp⟩) trivial ?_
  simp only [Act.put, List.setIfInBounds_toArray, List.set_cons_zero, List.set_cons_succ]
  refine wpAnyH_takeL (i := 4) (v := .int .i64 d) rfl (by kernel_rfl) (by kernel_rfl) (by kernel_rfl) (fun _ _ _ h => h) (Or.inl ⟨by rfl, fun w' _ => by go_simp⟩) trivial ?_
  simp only [Act.put, List.setIfInBounds_toArray, List.set_cons_zero, List.set_cons_succ]
  refine wpAnyH_takeL (i := 5) (v := .int .i64 (48 + d)) rfl (by kernel_rfl) (by kernel_rfl) (by kernel_rfl) (fun _ _ _ h => h) (Or.inl ⟨by rfl, fun w' _ => by go_simp⟩) trivial ?_
  simp only [Act.put, List.setIfInBounds_toArray, List.set_cons_zero, List.set_cons_succ]
  refine wpAnyH_takeL (i := 6) (v := .int .u8 (48 + d)) rfl (by kernel_rfl) (by kernel_rfl) (by kernel_rfl) (fun _ _ _ h => h) (Or.inl ⟨by rfl, fun w' _ => by go_simp⟩) trivial ?_
  simp only [Act.put, List.setIfInBounds_toArray, List.set_cons_zero, List.set_cons_succ]
  refine wpAnyH_ready (rs := [2, 7]) (by kernel_rfl) (by simp) ?_
  refine AllReadyH.consL rfl (fun K hK => ?_) (AllReadyH.consL rfl (fun K hK => ?_) AllReadyH.nil)
  · skip
    go_simp
    go_at_call 139
    refine (ih W0).mono ?_
    rintro e V ⟨rfl, hb⟩
    go_simp
    refine hK.out _ _ trivial (fun _ => ?_)
    clear hK K
    simp only [List.setIfInBounds_toArray, List.set_cons_zero, List.set_cons_succ]
    refine wpAnyH_ready (rs := [7]) (by kernel_rfl) (by simp) ?_
    refine AllReadyH.consL rfl (fun K hK => ?_) AllReadyH.nil
    go_simp
    refine hK.out _ _ trivial (fun _ => ?_)
    clear hK K
    simp only [List.setIfInBounds_toArray, List.set_cons_zero, List.set_cons_succ]
    have hc := backG (V.alloc (.cells #[.int .u8 (48 + d)] 5)) V.heap.size _ hm (by simp)
    refine wpAnyH_ready (rs := [8]) (by kernel_rfl) (by simp) ?_
    refine AllReadyH.consL rfl (fun K hK => ?_) AllReadyH.nil
    go_simp
    refine hK.out _ _ trivial (fun _ => ?_)
    clear hK K
    simp only [List.setIfInBounds_toArray, List.set_cons_zero, List.set_cons_succ]
    have hB : Below w.heap.size w (V.alloc (.cells #[.int .u8 (48 + d)] 5)) := (Below.on' hB0 hb).alloc (Below.on' hB0 hb).size _
    refine wpAnyH_takeL (i := 9) (v := .string (numT q ++ digT d)) rfl (by kernel_rfl) (by kernel_rfl) (by kernel_rfl) (fun _ _ _ h => h) (Or.inl ⟨by rfl, fun w' _ => by go_simp⟩) trivial ?_
    simp only [Act.put, List.setIfInBounds_toArray, List.set_cons_zero, List.set_cons_succ]
    refine wpAnyH_takeL (i := 10) (v := .string (numT q ++ digT d)) rfl (by kernel_rfl) (by kernel_rfl) (by kernel_rfl) (fun _ _ _ h => h) (Or.inl ⟨by rfl, fun w' _ => by go_simp⟩) trivial ?_
    simp only [Act.put, List.setIfInBounds_toArray, List.set_cons_zero, List.set_cons_succ]
    refine wpAnyH_done (by kernel_rfl) ?_ _
    go_wp2
    go_ret
    exact RV.mk (by rw [HN.out]; rfl) (hB)
  · go_simp
    refine hK.out _ _ trivial (fun _ => ?_)
    clear hK K
    simp only [List.setIfInBounds_toArray, List.set_cons_zero, List.set_cons_succ]
    have hB1 : Below w.heap.size w (W0.alloc (.cells #[.int .u8 (48 + d)] 5)) := hB0.alloc hB0.size _
    have hcell : (W0.alloc (.cells #[.int .u8 (48 + d)] 5)).cell? ⟨W0.heap.size, 0, none⟩ = some (.int .u8 (48 + d)) := by simp
    generalize (W0.alloc (.cells #[.int .u8 (48 + d)] 5)) = W1 at hB1 hcell ⊢
    refine wpAnyH_ready (rs := [2, 8]) (by kernel_rfl) (by simp) ?_
    refine AllReadyH.consL rfl (fun K hK => ?_) (AllReadyH.consL rfl (fun K hK => ?_) AllReadyH.nil)
    · skip
      go_simp
      go_at_call 139
      refine (ih W1).mono ?_
      rintro e V ⟨rfl, hb⟩
      go_simp
      refine hK.out _ _ trivial (fun _ => ?_)
      clear hK K
      simp only [List.setIfInBounds_toArray, List.set_cons_zero, List.set_cons_succ]
      have hc := backG V W0.heap.size _ hm (keep hb hcell)
      refine wpAnyH_ready (rs := [8]) (by kernel_rfl) (by simp) ?_
      refine AllReadyH.consL rfl (fun K hK => ?_) AllReadyH.nil
      go_simp
      refine hK.out _ _ trivial (fun _ => ?_)
      clear hK K
      simp only [List.setIfInBounds_toArray, List.set_cons_zero, List.set_cons_succ]
      have hB := Below.on' hB1 hb
      refine wpAnyH_takeL (i := 9) (v := .string (numT q ++ digT d)) rfl (by kernel_rfl) (by kernel_rfl) (by kernel_rfl) (fun _ _ _ h => h) (Or.inl ⟨by rfl, fun w' _ => by go_simp⟩) trivial ?_
      simp only [Act.put, List.setIfInBounds_toArray, List.set_cons_zero, List.set_cons_succ]
      refine wpAnyH_takeL (i := 10) (v := .string (numT q ++ digT d)) rfl (by kernel_rfl) (by kernel_rfl) (by kernel_rfl) (fun _ _ _ h => h) (Or.inl ⟨by rfl, fun w' _ => by go_simp⟩) trivial ?_
      simp only [Act.put, List.setIfInBounds_toArray, List.set_cons_zero, List.set_cons_succ]
      refine wpAnyH_done (by kernel_rfl) ?_ _
      go_wp2
      go_ret
      exact RV.mk (by rw [HN.out]; rfl) (hB)
    · have hc := backG W1 W0.heap.size _ hm hcell
      go_simp
      refine hK.out _ _ trivial (fun _ => ?_)
      clear hK K
      simp only [List.setIfInBounds_toArray, List.set_cons_zero, List.set_cons_succ]
      refine wpAnyH_ready (rs := [2]) (by kernel_rfl) (by simp) ?_
      refine AllReadyH.consL rfl (fun K hK => ?_) AllReadyH.nil
      go_simp
      go_at_call 139
      refine (ih W1).mono ?_
      rintro e V ⟨rfl, hb⟩
      go_simp
      refine hK.out _ _ trivial (fun _ => ?_)
      clear hK K
      simp only [List.setIfInBounds_toArray, List.set_cons_zero, List.set_cons_succ]
      have hB := Below.on' hB1 hb
      refine wpAnyH_takeL (i := 9) (v := .string (numT q ++ digT d)) rfl (by kernel_rfl) (by kernel_rfl) (by kernel_rfl) (fun _ _ _ h => h) (Or.inl ⟨by rfl, fun w' _ => by go_simp⟩) trivial ?_
      simp only [Act.put, List.setIfInBounds_toArray, List.set_cons_zero, List.set_cons_succ]
      refine wpAnyH_takeL (i := 10) (v := .string (numT q ++ digT d)) rfl (by kernel_rfl) (by kernel_rfl) (by kernel_rfl) (fun _ _ _ h => h) (Or.inl ⟨by rfl, fun w' _ => by go_simp⟩) trivial ?_
      simp only [Act.put, List.setIfInBounds_toArray, List.set_cons_zero, List.set_cons_succ]
      refine wpAnyH_done (by kernel_rfl) ?_ _
      go_wp2
      go_ret
      exact RV.mk (by rw [HN.out]; rfl) (hB)
termination_by n
decreasing_by omega
end Go.Proofs.YtjmjilkpckbpeaaGreatDoor

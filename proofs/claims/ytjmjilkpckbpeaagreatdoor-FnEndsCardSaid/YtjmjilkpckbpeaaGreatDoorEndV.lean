/- RoomView and AgreeOn, on both sides. Conditions: at most 2^20 in each list, texts of at most 2^20; the listed variables as Said has them. -/
import Derived.Test.YtjmjilkpckbpeaaGreatDoorEndBh
import Derived.Test.YtjmjilkpckbpeaaGreatDoorLA
namespace Go.Proofs.YtjmjilkpckbpeaaGreatDoor
open Go.RowKit

theorem view_step {f : List App} {r : List Msg} {k : Nat} {a : App} (ha : f[k]? = some a) : ((viewF f r).take k ++ f.drop k).set k (viewA r a) = (viewF f r).take (k + 1) ++ f.drop (k + 1) := by
  have hk := (List.getElem?_eq_some_iff.1 ha).1
  have hl : ((viewF f r).take k).length = k := by rw [List.length_take, viewF_len]; omega
  rw [List.set_append_right _ _ (by omega), hl, Nat.sub_self, List.drop_eq_getElem_cons hk, List.set_cons_zero, take_snoc (viewF_at ha), List.append_assoc]; rfl
theorem view_at {f : List App} {r : List Msg} {k : Nat} {a : App} (ha : f[k]? = some a) : ((viewF f r).take k ++ f.drop k)[k]? = some a := by
  have hl : ((viewF f r).take k).length = k := by have := (List.getElem?_eq_some_iff.1 ha).1; rw [List.length_take, viewF_len]; omega
  rw [List.getElem?_append_right (by omega), hl, Nat.sub_self, List.getElem?_drop]
  exact ha
theorem view_same {f : List App} {r : List Msg} {k : Nat} {a : App} (ha : f[k]? = some a) (hv : viewA r a = a) : (viewF f r).take k ++ f.drop k = (viewF f r).take (k + 1) ++ f.drop (k + 1) := by
  rw [← view_step ha, hv]
  obtain ⟨h1, h2⟩ := List.getElem?_eq_some_iff.1 (view_at (r := r) ha)
  have h3 := List.set_getElem_self h1
  rw [h2] at h3
  exact h3.symm
theorem view_len (f : List App) (r : List Msg) (k : Nat) : ((viewF f r).take k ++ f.drop k).length = f.length := by
  rw [List.length_append, List.length_take, List.length_drop, viewF_len]; omega
set_option maxRecDepth 100000 in
set_option maxHeartbeats 8000000 in
theorem view_any (Af : Option Addr) (cf : Nat) (f : List App) (An : Option Addr) (cn : Nat) (n : List App) (As : Option Addr) (cs : Nat) (s : List Msg) (Ar : Option Addr) (cr : Nat) (r : List Msg) (Ah : Option Addr) (ch : Nat) (h : List Msg) (w : World) (pb : Nat) (hN : BN pb [.slice Af f.length cf, .slice An n.length cn, .slice As s.length cs, .slice Ar r.length cr, .slice Ah h.length ch] w) (hE : EA w Af cf f An cn n As cs s Ar cr r Ah ch h) (hT : Said w) (hnr : ∀ x ∈ r, x.n ≤ 999) (hpar : ∀ nm b, b ∈ ordF r nm → b.size ≤ 1048576 ∧ 0 ≤ stF b) :
    Calls Tryz.prog 113 #[.pointer (some ⟨pb, 0, none⟩)] w (RS1 App.cells 5 w (viewF f r)) := by
  have hpb := hN.lt (by simp)
  have b0 := (hN 0 _ rfl).1
  replace hnr := Lib.hid hnr
  replace hpar := Lib.hid hpar
  go_enter Tryz.func113, Tryz.ntmps113
  go_wp2_with fail
  refine (App.Clone_any Af cf f _ hE.lf hE.Sf).mono ?_
  rintro e w1 ⟨A, c, rfl, hO, hB⟩
  have hS := hO.sl App.len
  have hcap := hO.cap
  have hS0 : Apps w1 w.heap.size w1.heap.size A ((viewF f r).take 0 ++ f.drop 0) := by simpa using hS
  have hlf := hE.lf
  clear hO hS b0
  go_wp2_with fail
  go_loopw [14] (fun i wr => ∃ k : Nat, k ≤ f.length ∧ i = .int .i64 k ∧ Apps wr w.heap.size w1.heap.size A ((viewF f r).take k ++ f.drop k) ∧ Below w.heap.size w wr ∧ w1.heap.size ≤ wr.heap.size) (fun i _ => f.length - (intOf i).toNat)
  case atStart => exact ⟨0, Nat.zero_le _, rfl, hS0, hB, Nat.le_refl _⟩
  case round =>
    have hB1 := hB
    clear hS0 hB
    obtain ⟨k, hk, rfl, hS, hB, hw1⟩ := hrel
    have hz := hB.size
    by_cases hlt : k < f.length
    · obtain ⟨a, ha, _⟩ := get_lt hlt
      have hv := view_at (r := r) ha
      have HA := Lib.hid ha
      obtain ⟨ab, ao, rfl, alo, alt, _, hf⟩ := hS.at_ hv
      have a0 : wr.cell? ⟨ab, ao + k * 5, none⟩ = some (.string a.nm) := (hf 0 _ rfl).1
      have a1 : wr.cell? ⟨ab, ao + k * 5 + 1, none⟩ = some (.int .i64 a.kd) := (hf 1 _ rfl).1
      have a2 : wr.cell? ⟨ab, ao + k * 5 + 2, none⟩ = some (.int .i64 a.nd) := (hf 2 _ rfl).1
      have a3 : wr.cell? ⟨ab, ao + k * 5 + 3, none⟩ = some (.int .i64 a.cw) := (hf 3 _ rfl).1
      have a4 : wr.cell? ⟨ab, ao + k * 5 + 4, none⟩ = some (.int .i64 a.st) := (hf 4 _ rfl).1
      have f4 : wr.frozen? ⟨ab, ao + k * 5 + 4, none⟩ = false := (hf 4 _ rfl).2
      clear hf hv ha
      have hbn : Below wr.heap.size wr (wr.alloc (.cells #[.string a.nm, .int .i64 a.kd, .int .i64 a.nd, .int .i64 a.cw, .int .i64 a.st] 73)) := (Below.refl _ _).alloc (Nat.le_refl _) _
      have hY := BN.new wr #[.string a.nm, .int .i64 a.kd, .int .i64 a.nd, .int .i64 a.cw, .int .i64 a.st] 73 _ rfl
      have hBa := Below.on' hB hbn
      have hSa := hS.below hbn
      have d4 := keep hbn a4
      have dz := (hbn.frozen (p := ⟨ab, ao + k * 5 + 4, none⟩) (by simp only; omega)).trans f4
      go_wp2_with fail
      clear a0 a1 a2 a3 a4 f4 hbn hS hB
      have hsz : wr.heap.size < (wr.alloc (.cells #[.string a.nm, .int .i64 a.kd, .int .i64 a.nd, .int .i64 a.cw, .int .i64 a.st] 73)).heap.size := by simp
      generalize wr.alloc (.cells #[.string a.nm, .int .i64 a.kd, .int .i64 a.nd, .int .i64 a.cw, .int .i64 a.st] 73) = W0 at hY hBa hSa hsz d4 dz ⊢
      have hc0 : W0.cell? ⟨wr.heap.size, 0, none⟩ = some (.string a.nm) := (hY 0 _ rfl).1
      refine wp_region_held_drew (S := fun w' => w'.cell? ⟨wr.heap.size, 0, none⟩ = some (.string a.nm)) (by kernel_rfl) hc0 (fun hHeld => ?_)
      have hbd : Below W0.heap.size W0 W0.drew := (Below.refl _ _).drew
      have hzd : W0.drew.heap.size = W0.heap.size := rfl
      replace hY := hY.upto (hY.lt (by simp)) hbd
      replace hBa := hBa.drew
      replace hSa := hSa.drew
      replace d4 := keep hbd d4
      replace dz : W0.drew.frozen? ⟨ab, ao + k * 5 + 4, none⟩ = false := dz
      replace hc0 : W0.drew.cell? ⟨wr.heap.size, 0, none⟩ = some (.string a.nm) := keep hbd hc0
      rw [← hzd] at hsz
      clear hbd hzd
      generalize W0.drew = W1 at hY hBa hSa hsz d4 dz hc0 hHeld ⊢
      have hE1 := hE.below hBa
      have hN1 := hN.upto hpb hBa
      change wpAnyH _ _ _ _ _ 7 #[false, false, false, false, false, false, false] _ _
      refine wpAnyH_takeL (i := 0) (v := .pointer (some ⟨pb, 0, none⟩)) rfl (by kernel_rfl) (by kernel_rfl) (by kernel_rfl) (fun _ _ _ h => h) (Or.inl ⟨by rfl, fun w' hSw => by go_simp⟩) hc0 ?_
      simp only [Act.put, List.setIfInBounds_toArray, List.set_cons_zero, List.set_cons_succ]
      refine wpAnyH_takeL (i := 1) (v := .pointer (some ⟨pb, 0, none⟩)) rfl (by kernel_rfl) (by kernel_rfl) (by kernel_rfl) (fun _ _ _ h => h) (Or.inl ⟨by rfl, fun w' hSw => by go_simp⟩) hc0 ?_
      simp only [Act.put, List.setIfInBounds_toArray, List.set_cons_zero, List.set_cons_succ]
      refine wpAnyH_takeL (i := 2) (v := .pointer (some ⟨pb, 2, none⟩)) rfl (by kernel_rfl) (by kernel_rfl) (by kernel_rfl) (fun _ _ _ h => h) (Or.inl ⟨by rfl, fun w' hSw => by go_simp⟩) hc0 ?_
      simp only [Act.put, List.setIfInBounds_toArray, List.set_cons_zero, List.set_cons_succ]
      refine wpAnyH_takeL (i := 3) (v := .pointer (some ⟨wr.heap.size, 0, none⟩)) rfl (by kernel_rfl) (by kernel_rfl) (by kernel_rfl) (fun _ _ _ h => h) (Or.inl ⟨by rfl, fun w' hSw => by go_simp⟩) hc0 ?_
      simp only [Act.put, List.setIfInBounds_toArray, List.set_cons_zero, List.set_cons_succ]
      refine wpAnyH_takeL (i := 4) (v := .string a.nm) rfl (by kernel_rfl) (by kernel_rfl) (by kernel_rfl) (fun _ _ _ h => h) (Or.inl ⟨by rfl, fun w' hSw => by change w'.cell? _ = _ at hSw; go_simp⟩) hc0 ?_
      simp only [Act.put, List.setIfInBounds_toArray, List.set_cons_zero, List.set_cons_succ]
      refine wpAnyH_ready (rs := [5]) (by kernel_rfl) (by simp) ?_
      refine AllReadyH.consL rfl (fun KK hK => ?_) AllReadyH.nil
      go_simp
      go_at_call 121
      refine (inOrder_any pb 2 _ _ Ar cr r a.nm _ ⟨(hN1 2 _ rfl).1, (hN1 3 _ rfl).1, (hN1 4 _ rfl).1, (hN1 2 _ rfl).2, (hN1 3 _ rfl).2, (hN1 4 _ rfl).2⟩ hE1.lr hE1.Sr hnr.out).mono ?_
      rintro e w2 ⟨A2, c2, rfl, hO2, _, hb⟩
      have hY2 := hY.upto (hY.lt (by simp)) hb
      have hc2 : w2.cell? ⟨wr.heap.size, 0, none⟩ = some (.string a.nm) := keep hb hc0
      have hB2 := Below.on' hBa hb
      have hS2 := hSa.below hb
      have e4 := keep hb d4
      have ez := (hb.frozen (p := ⟨ab, ao + k * 5 + 4, none⟩) (by simp only; omega)).trans dz
      have hz2 := hb.size
      clear hY hBa hSa d4 dz hN1 hE1 hb hc0
      go_simp
      refine hK.out _ _ hc2 (fun hHeld => ?_)
      clear hK KK
      simp only [List.setIfInBounds_toArray, List.set_cons_zero, List.set_cons_succ]
      have hc0 := hc2
      clear hc2
      refine wpAnyH_takeL (i := 6) (v := .slice A2 (ordF r a.nm).length c2) rfl (by kernel_rfl) (by kernel_rfl) (by kernel_rfl) (fun _ _ _ h => h) (Or.inl ⟨by rfl, fun w' hSw => by go_simp⟩) hc0 ?_
      simp only [Act.put, List.setIfInBounds_toArray, List.set_cons_zero, List.set_cons_succ]
      refine wpAnyH_done (by kernel_rfl) ?_ _
      have hlen := ordF_len r a.nm
      by_cases hg : (ordF r a.nm).length = 0
      · have HS : Hid (Apps w2 w.heap.size w1.heap.size (some ⟨ab, ao, none⟩) ((viewF f r).take (k + 1) ++ f.drop (k + 1))) := Lib.hid (by rw [← view_same HA.out (viewA_none hg)]; exact hS2)
        rw [hg]
        clear hg hlen hO2 hS2
        go_wp2
        go_roundw
        case rel => exact ⟨k + 1, by omega, by go_num, HS.out, hB2, by omega⟩
        case measure => simp [intOf]; omega
      · obtain ⟨y, hy, hym⟩ := get_lt (l := ordF r a.nm) (i := (ordF r a.nm).length - 1) (by omega)
        have HV := Lib.hid (viewA_last hy)
        obtain ⟨qs, qp⟩ := hpar.out _ _ hym
        obtain ⟨yb, yo, rfl, _, ylt, _, y0, _⟩ := Strs.at1 hO2 hy
        have hg' : ((ordF r a.nm).length : Int) > 0 := by omega
        have hT2 := hT.below hB2
        have hwrap : wrap64 (((ordF r a.nm).length : Int) - 1) = (((ordF r a.nm).length - 1 : Nat) : Int) := by unfold wrap64; omega
        replace HA := HA
        clear hy hym hO2
        go_wp2_with fail
        refine (parseStateBody_any y qs _ hT2).mono ?_
        rintro e w3 ⟨v, bb, rfl, HP, hb⟩
        obtain rfl : v = stF y := by
          rcases HP.out with ⟨_, _, h3⟩ | ⟨_, _, h3⟩
          · have := stF_of h3; omega
          · exact stF_of h3
        have hB3 := Below.on' hB2 hb
        have hz3 := hb.size
        have hS3 := (hS2.below hb).set1 (j := 4) (u := .int .i64 (stF y)) (y := viewA r a) (view_at HA.out) App.len (by omega) (by rw [HV.out]; rfl)
        rw [view_step HA.out] at hS3
        have c4 := keep hb e4
        have cz := (hb.frozen (p := ⟨ab, ao + k * 5 + 4, none⟩) (by simp only; omega)).trans ez
        have hFr : Fr ab (ab + 1) w3 (w3.setCell ⟨ab, ao + k * 5 + 4, none⟩ (.int .i64 (stF y))) := (Fr.refl _ _ _).setCell ⟨by simp, by simp⟩ _
        have hB4 : Below w.heap.size w (w3.setCell ⟨ab, ao + k * 5 + 4, none⟩ (.int .i64 (stF y))) := hB3.trans (hFr.below (by omega) (by omega))
        have hz4 := hFr.size
        have hw4 : w1.heap.size ≤ (w3.setCell ⟨ab, ao + k * 5 + 4, none⟩ (.int .i64 (stF y))).heap.size := by omega
        clear hS2 hB2 hB3 e4 ez hFr hT2 y0 hb HP HV hc0 hY2
        go_wp2
        go_roundw
        case rel => exact ⟨k + 1, by omega, by go_num, hS3, hB4, hw4⟩
        case measure => simp [intOf]; omega
    · obtain rfl : k = f.length := by omega
      have HS : Hid (Apps wr w.heap.size wr.heap.size A (viewF f r)) := Lib.hid (by
        have h := hS.mono (lo' := w.heap.size) (hi' := wr.heap.size) (Nat.le_refl _) hw1 (Nat.le_refl _)
        rw [List.drop_of_length_le (Nat.le_refl _), List.append_nil, List.take_of_length_le (by rw [viewF_len]; exact Nat.le_refl _)] at h
        exact h)
      clear hS
      go_wp2
      go_ret
      exact RS1.of rfl (viewF_len f r).symm HS.out (Nat.le_refl _) (by rw [viewF_len]; exact hcap) hB
end Go.Proofs.YtjmjilkpckbpeaaGreatDoor

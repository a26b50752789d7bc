/- The order of entries, as the program compares them, and the test that a list is in order. Conditions: lists of at most 2^20. -/
import Derived.Test.YtmdmcjhodhphgaaGreatDel
import Derived.Test.YtmdmcjhodhphgaaGreatHist
import Derived.Test.YtmdmcjhodhphgaaGreatInts
import Derived.Test.YtmdmcjhodhphgaaGreatShAll
import Derived.StillTailTactics
import Derived.Sort.Grow
namespace Go.Proofs.YtmdmcjhodhphgaaGreat
open Go.RowKit

def cmpE (x y : Ent) : Int := if befB x y = true then -1 else if befB y x = true then 1 else 0
theorem cmpE_neg (x y : Ent) : cmpE x y < 0 ↔ befB x y = true := by
  unfold cmpE
  by_cases h : befB x y = true
  · rw [if_pos h]; simp [h]
  · rw [if_neg h]; split <;> simp [h]
def orI (a b c : Int) : Int := if a ≠ 0 then a else if b ≠ 0 then b else c
theorem cI_lt {x y : Int} (h : x < y) : Lib.compareInt x y = -1 := if_pos h
theorem cI_gt {x y : Int} (h : y < x) : Lib.compareInt x y = 1 := by unfold Lib.compareInt; rw [if_neg (by omega), if_pos h]
theorem cI_eq (x : Int) : Lib.compareInt x x = 0 := by unfold Lib.compareInt; rw [if_neg (by omega), if_neg (by omega)]
theorem cmpE_lt {x y : Ent} (h : befB x y = true) : cmpE x y = -1 := if_pos h
theorem cmpE_gt {x y : Ent} (h : befB y x = true) : cmpE x y = 1 := by unfold cmpE; rw [if_neg (by rw [bef_le h]; exact Bool.false_ne_true), if_pos h]
theorem cmpE_eq {x y : Ent} (h1 : befB x y = false) (h2 : befB y x = false) : cmpE x y = 0 := by unfold cmpE; rw [h1, h2]; rfl
theorem orI_zero (b : Int) : orI 0 b 0 = b := by
  unfold orI
  rw [if_neg (fun h => h rfl)]
  by_cases h : b = 0
  · rw [if_neg (fun h' => h' h), h]
  · rw [if_pos h]
theorem orI_ne {a : Int} (h : a ≠ 0) (b c : Int) : orI a b c = a := if_pos h
theorem cmpE_or (x y : Ent) : orI (Lib.compareInt x.m y.m) (orI (Lib.compareInt x.r y.r) (Lib.compareInt x.n y.n) 0) 0 = cmpE x y := by
  rcases Int.lt_trichotomy x.m y.m with hm | hm | hm
  · rw [cI_lt hm, cmpE_lt (befB_iff.2 (.inl hm)), orI_ne (by decide)]
  · rw [hm, cI_eq, orI_zero]
    rcases Int.lt_trichotomy x.r y.r with hr | hr | hr
    · rw [cI_lt hr, cmpE_lt (befB_iff.2 (.inr ⟨hm, .inl hr⟩)), orI_ne (by decide)]
    · rw [hr, cI_eq, orI_zero]
      rcases Int.lt_trichotomy x.n y.n with hn | hn | hn
      · rw [cI_lt hn, cmpE_lt (befB_iff.2 (.inr ⟨hm, .inr ⟨hr, hn⟩⟩))]
      · rw [hn, cI_eq, cmpE_eq (befB_no.2 (.inr ⟨hm, .inr ⟨hr, by omega⟩⟩)) (befB_no.2 (.inr ⟨hm.symm, .inr ⟨hr.symm, by omega⟩⟩))]
      · rw [cI_gt hn, cmpE_gt (befB_iff.2 (.inr ⟨hm.symm, .inr ⟨hr.symm, hn⟩⟩))]
    · rw [cI_gt hr, cmpE_gt (befB_iff.2 (.inr ⟨hm.symm, .inl hr⟩)), orI_ne (by decide)]
  · rw [cI_gt hm, cmpE_gt (befB_iff.2 (.inl hm)), orI_ne (by decide)]

set_option maxHeartbeats 1000000 in
theorem cmpOr_eq (B : Nat) (a b c : Int) (w : World) (h0 : w.cell? ⟨B, 0, none⟩ = some (.int .i64 a)) (h1 : w.cell? ⟨B, 1, none⟩ = some (.int .i64 b)) (h2 : w.cell? ⟨B, 2, none⟩ = some (.int .i64 c)) :
    Calls Tryz.prog 73 #[.slice (some ⟨B, 0, none⟩) 3 3] w fun e w' => e = .returned (.int .i64 (orI a (orI b c 0) 0)) ∧ w' = w := by
  go_enter Tryz.func73, Tryz.ntmps73
  go_wp2_with fail
  go_loop [8] (fun i => ∃ k : Nat, k ≤ 3 ∧ i = .int .i64 k ∧ Hid ((0 < k → a = 0) ∧ (1 < k → b = 0) ∧ (2 < k → c = 0))) (fun i => 3 - (intOf i).toNat)
  case atStart => exact ⟨0, by omega, rfl, Lib.hid ⟨by omega, by omega, by omega⟩⟩
  case round =>
    obtain ⟨k, hk, rfl, HK⟩ := hrel
    rcases (by omega : k = 0 ∨ k = 1 ∨ k = 2 ∨ k = 3) with rfl | rfl | rfl | rfl
    · by_cases hz : a = 0
      · go_wp2
        go_round
        case rel => exact ⟨1, by omega, by go_num, Lib.hid ⟨fun _ => hz, by omega, by omega⟩⟩
        case measure => simp [intOf]
      · go_wp2
        go_ret
        exact ⟨by rw [orI_ne hz]; rfl, rfl⟩
    · have ha := HK.out.1 (by omega)
      replace HK := Lib.hid ha
      by_cases hz : b = 0
      · go_wp2
        go_round
        case rel => exact ⟨2, by omega, by go_num, Lib.hid ⟨fun _ => HK.out, fun _ => hz, by omega⟩⟩
        case measure => simp [intOf]
      · clear ha
        go_wp2
        go_ret
        exact ⟨by rw [HK.out, orI_zero, orI_ne hz]; rfl, rfl⟩
    · have ha := HK.out.1 (by omega)
      have hb := HK.out.2.1 (by omega)
      replace HK := Lib.hid (And.intro ha hb)
      clear ha hb
      by_cases hz : c = 0
      · go_wp2
        go_round
        case rel => exact ⟨3, by omega, by go_num, Lib.hid ⟨fun _ => HK.out.1, fun _ => HK.out.2, fun _ => hz⟩⟩
        case measure => simp [intOf]
      · go_wp2
        go_ret
        exact ⟨by rw [HK.out.1, HK.out.2, orI_zero, orI_zero]; rfl, rfl⟩
    · have ha := HK.out
      replace HK := Lib.hid (And.intro (ha.1 (by omega)) (And.intro (ha.2.1 (by omega)) (ha.2.2 (by omega))))
      clear ha
      go_wp2
      go_ret
      exact ⟨by rw [HK.out.1, HK.out.2.1, HK.out.2.2, orI_zero, orI_zero]; rfl, rfl⟩
theorem grown3 (w : World) (o1 o2 o3 : Obj) : (((w.alloc o1).alloc o2).drew).alloc o3 = Go.Sort.grow (w.drewN 1) #[o1, o2, o3] := by
  rw [Go.Sort.alloc_eq_grow w, Go.Sort.alloc_eq_grow _ o2, Go.Sort.alloc_eq_grow _ o3, Go.Sort.grow_grow]
  show Go.Sort.grow (Go.Sort.grow (w.drewN 1) (#[o1] ++ #[o2])) #[o3] = _
  rw [Go.Sort.grow_grow]
  rfl
set_option maxRecDepth 100000 in
set_option maxHeartbeats 1000000 in
theorem compareEntries_grow (x y : Ent) (w : World) : Calls Tryz.prog 61 #[.agg #[.int .i64 x.r, .int .i64 x.n, .int .i64 x.m, .string x.t], .agg #[.int .i64 y.r, .int .i64 y.n, .int .i64 y.m, .string y.t]] w fun e w' => e = .returned (.int .i64 (cmpE x y)) ∧ ∃ os, w' = Go.Sort.grow (w.drewN 1) os := by
  go_enter Tryz.func61, Tryz.ntmps61
  go_wp2_with fail
  generalize hW : (w.alloc (Obj.cells #[.int .i64 x.r, .int .i64 x.n, .int .i64 x.m, .string x.t] 38)).alloc (Obj.cells #[.int .i64 y.r, .int .i64 y.n, .int .i64 y.m, .string y.t] 38) = W
  have HG : Hid (∀ o, (W.drew).alloc o = Go.Sort.grow (w.drewN 1) #[(Obj.cells #[.int .i64 x.r, .int .i64 x.n, .int .i64 x.m, .string x.t] 38), (Obj.cells #[.int .i64 y.r, .int .i64 y.n, .int .i64 y.m, .string y.t] 38), o]) := Lib.hid (fun o => by rw [← hW]; exact grown3 _ _ _ _)
  have hx : ∀ t u, (x.cells)[t]? = some u → W.drew.cell? ⟨w.heap.size, t, none⟩ = some u := fun t u hu => by rw [← hW]; exact lay _ (new_cells (E := Ent.cells) w 38 x _ rfl t u hu)
  have hy : ∀ t u, (y.cells)[t]? = some u → W.drew.cell? ⟨w.heap.size + 1, t, none⟩ = some u := fun t u hu => by
    rw [← hW]
    have := new_cells (E := Ent.cells) (w.alloc (Obj.cells #[.int .i64 x.r, .int .i64 x.n, .int .i64 x.m, .string x.t] 38)) 38 y _ rfl t u hu
    rw [show (w.alloc (Obj.cells #[.int .i64 x.r, .int .i64 x.n, .int .i64 x.m, .string x.t] 38)).heap.size = w.heap.size + 1 by simp] at this
    exact this
  have c0 : W.drew.cell? ⟨w.heap.size, 0, none⟩ = some (.int .i64 x.r) := hx 0 _ rfl
  have c1 : W.drew.cell? ⟨w.heap.size, 1, none⟩ = some (.int .i64 x.n) := hx 1 _ rfl
  have c2 : W.drew.cell? ⟨w.heap.size, 2, none⟩ = some (.int .i64 x.m) := hx 2 _ rfl
  have d0 : W.drew.cell? ⟨w.heap.size + 1, 0, none⟩ = some (.int .i64 y.r) := hy 0 _ rfl
  have d1 : W.drew.cell? ⟨w.heap.size + 1, 1, none⟩ = some (.int .i64 y.n) := hy 1 _ rfl
  have d2 : W.drew.cell? ⟨w.heap.size + 1, 2, none⟩ = some (.int .i64 y.m) := hy 2 _ rfl
  clear hx hy hW
  refine wp_region_still_tail 15 (by kernel_rfl) (by kernel_rfl) ?_
  simp only [List.take_succ_cons, List.take_zero, List.drop_succ_cons, List.drop_zero]
  change wpStill _ _ W.drew (fun a' => wpList _ _ _ _ a' W.drew) _ _
  generalize W.drew = V at c0 c1 c2 d0 d1 d2 HG ⊢
  iterate 4 still_step
  still_call (Tryz.cmp_Compare_int _ _ _)
  iterate 4 still_step
  still_call (Tryz.cmp_Compare_int _ _ _)
  iterate 4 still_step
  still_call (Tryz.cmp_Compare_int _ _ _)
  refine wpStill_nil ?_
  clear c0 c1 c2 d0 d1 d2
  go_wp2_with fail
  refine (cmpOr_eq _ (Lib.compareInt x.m y.m) (Lib.compareInt x.r y.r) (Lib.compareInt x.n y.n) _ (by simp) (by simp) (by simp)).mono ?_
  rintro e w1 ⟨rfl, rfl⟩
  rw [cmpE_or]
  go_wp2
  go_ret
  exact ⟨rfl, _, HG.out _⟩
theorem below_grow (w : World) (n : Nat) (os : Array Obj) : Below w.heap.size w (Go.Sort.grow (w.drewN n) os) :=
  ⟨rfl, rfl, rfl, by simp [Go.Sort.grow], fun b hb => by simp [Go.Sort.grow, Array.getElem?_append, hb]⟩
theorem compareEntries_any (x y : Ent) (w : World) : Calls Tryz.prog 61 #[.agg #[.int .i64 x.r, .int .i64 x.n, .int .i64 x.m, .string x.t], .agg #[.int .i64 y.r, .int .i64 y.n, .int .i64 y.m, .string y.t]] w (RV w (.int .i64 (cmpE x y))) :=
  (compareEntries_grow x y w).mono fun _ _ ⟨he, os, hw⟩ => ⟨he, by rw [hw]; exact below_grow w 1 os⟩
set_option maxRecDepth 100000 in
set_option maxHeartbeats 4000000 in
theorem IsSortedE_any (A : Option Addr) (c : Nat) (l : List Ent) (w : World) (hl : l.length ≤ 1048576) (hS : Ents w 0 w.heap.size A l) :
    Calls Tryz.prog 64 #[.slice A l.length c, .func (.func 61) #[] #[]] w (RV w (.bool (adjB l))) := by
  go_enter Tryz.func64, Tryz.ntmps64
  go_wp2_with fail
  go_loopw [5] (fun i wr => ∃ (k : Nat) (v : Int), k ≤ l.length ∧ i = .int .i64 v ∧ Hid (v = k - 1) ∧ v ≤ k ∧ (v < 1 ∨ 2 ≤ k) ∧ Hid (adjB (l.drop (k - 1)) = true) ∧ Below w.heap.size w wr) (fun i _ => (intOf i).toNat)
  case atStart => exact ⟨l.length, _, Nat.le_refl _, rfl, Lib.hid rfl, by omega, by omega, Lib.hid (adj_last (by omega)), Below.refl _ _⟩
  case round =>
    obtain ⟨k, v, hk, rfl, HV, hv1, hv2, HA, hB⟩ := hrel
    by_cases h2 : 2 ≤ k
    · obtain ⟨m, rfl⟩ : ∃ m, k = m + 2 := ⟨k - 2, by omega⟩
      obtain rfl : v = (m : Int) + 1 := by have := HV.out; omega
      clear HV hv1 hv2
      obtain ⟨x, hx, _⟩ := get_lt (l := l) (i := m) (by omega)
      obtain ⟨y, hy, _⟩ := get_lt (l := l) (i := m + 1) (by omega)
      have HC := Lib.hid (adj_step hx hy)
      have hSr := hS.below hB
      obtain ⟨b, off, rfl, _, _, _, hf⟩ := hSr.at_ hx
      have c0 : wr.cell? ⟨b, off + m * 4, none⟩ = some (.int .i64 x.r) := (hf 0 _ rfl).1
      have c1 : wr.cell? ⟨b, off + m * 4 + 1, none⟩ = some (.int .i64 x.n) := (hf 1 _ rfl).1
      have c2 : wr.cell? ⟨b, off + m * 4 + 2, none⟩ = some (.int .i64 x.m) := (hf 2 _ rfl).1
      have c3 : wr.cell? ⟨b, off + m * 4 + 3, none⟩ = some (.string x.t) := (hf 3 _ rfl).1
      clear hf hx
      obtain ⟨b', off', e, _, _, _, hf⟩ := hSr.at_ hy
      cases e
      have d0 : wr.cell? ⟨b, off + (m + 1) * 4, none⟩ = some (.int .i64 y.r) := (hf 0 _ rfl).1
      have d1 : wr.cell? ⟨b, off + (m + 1) * 4 + 1, none⟩ = some (.int .i64 y.n) := (hf 1 _ rfl).1
      have d2 : wr.cell? ⟨b, off + (m + 1) * 4 + 2, none⟩ = some (.int .i64 y.m) := (hf 2 _ rfl).1
      have d3 : wr.cell? ⟨b, off + (m + 1) * 4 + 3, none⟩ = some (.string y.t) := (hf 3 _ rfl).1
      clear hf hy hSr
      have hm0 : (0 : Int) ≤ (m : Int) + 1 := by omega
      have hm1 : (m : Int) + 1 < l.length := by omega
      have hm2 : (m : Int) < l.length := by omega
      have hm3 : (0 : Int) < (m : Int) + 1 := by omega
      go_wp2_with fail
      have hcls : ∀ w', Below wr.heap.size wr w' → w'.cell? ⟨b, off + m * 4, none⟩ = some (.int .i64 x.r) ∧ w'.cell? ⟨b, off + m * 4 + 1, none⟩ = some (.int .i64 x.n) ∧ w'.cell? ⟨b, off + m * 4 + 2, none⟩ = some (.int .i64 x.m) ∧ w'.cell? ⟨b, off + m * 4 + 3, none⟩ = some (.string x.t) ∧ w'.cell? ⟨b, off + (m + 1) * 4, none⟩ = some (.int .i64 y.r) ∧ w'.cell? ⟨b, off + (m + 1) * 4 + 1, none⟩ = some (.int .i64 y.n) ∧ w'.cell? ⟨b, off + (m + 1) * 4 + 2, none⟩ = some (.int .i64 y.m) ∧ w'.cell? ⟨b, off + (m + 1) * 4 + 3, none⟩ = some (.string y.t) :=
        fun w' h => ⟨keep h c0, keep h c1, keep h c2, keep h c3, keep h d0, keep h d1, keep h d2, keep h d3⟩
      clear c0 c1 c2 c3 d0 d1 d2 d3
      have hw1 : IntKind.i64.wrap (m : Int) = (m : Int) := IntWalk.i64_in _ (by omega)
      have hw2 : ((m : Int) + 1).toNat = m + 1 := by omega
      have hM : ∀ W : World, Calls Tryz.prog 61 #[.agg #[.int .i64 y.r, .int .i64 y.n, .int .i64 y.m, .string y.t], .agg #[.int .i64 x.r, .int .i64 x.n, .int .i64 x.m, .string x.t]] W (RV W (.int .i64 (cmpE y x))) := fun W => compareEntries_any y x W
      refine wp_region_quiet (C := fun w' => Below wr.heap.size wr w') (by kernel_rfl) (by kernel_rfl) ((Below.refl _ _).drew) ?_
      dsimp only [Array.toList]
      iterate 12
        with_reducible refine wpQuiet_step (fun K hK => ?_)
        go_simp
        first
          | (refine hK _ ?_; clear hK K)
          | (apply Exists.intro
             refine ⟨fun w' hw' => ?_, hK _ ?_⟩
             · obtain ⟨z0, z1, z2, z3, z4, z5, z6, z7⟩ := hcls w' hw'
               go_simp
               first
                 | rfl
                 | (refine (hM _).mono ?_; rintro e w1 ⟨rfl, hb⟩; exact ⟨rfl, hw'.trans (hb.mono hw'.size)⟩)
             clear hK K)
      refine wpQuiet_nil ?_
      intro W2 hW2
      have hB2 : Below w.heap.size w W2 := Below.on' hB hW2
      clear hcls hM hW2 hB hw1 hw2
      by_cases hq : befB y x = true
      · have hn : cmpE y x < 0 := (cmpE_neg y x).2 hq
        have HF : Hid (adjB l = false) := Lib.hid (by
          rw [Bool.eq_false_iff]
          intro ha
          have hp := adj_srt.1 ha
          have hp2 := adj_srt.2 (List.Pairwise.sublist (List.drop_sublist m l) hp)
          rw [HC.out, hq] at hp2
          cases hp2)
        go_wp2
        go_ret
        exact RV.mk (by rw [HF.out]; rfl) hB2
      · have hn : ¬ cmpE y x < 0 := fun h => hq ((cmpE_neg y x).1 h)
        have hq : befB y x = false := by simpa using hq
        have HA2 : Hid (adjB (l.drop m) = true) := Lib.hid (by rw [HC.out, hq]; exact HA.out)
        clear HC HA hq
        go_wp2
        go_roundw
        case rel => exact ⟨m + 1, (m : Int), by omega, by go_num, Lib.hid (by omega), by omega, by omega, HA2, hB2⟩
        case measure => first | (simp [intOf]; done) | (simp [intOf]; omega)
    · have hv : v < 1 := by omega
      have HT : Hid (adjB l = true) := Lib.hid (by have := HA.out; rw [show k - 1 = 0 by omega] at this; exact this)
      have hv0 : ¬ 0 < v := by omega
      clear hv2
      go_wp2
      go_ret
      exact RV.mk (by rw [HT.out]; rfl) hB
end Go.Proofs.YtmdmcjhodhphgaaGreat

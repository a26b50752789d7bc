/- The longest silence of a log, as the program and the reference find it. Conditions as in Log. -/
import Derived.Test.YtmdmcjhodhphgaaGreatDoorLog
import Derived.BigQuiet
namespace Go.Proofs.YtmdmcjhodhphgaaGreatDoor
open Go.RowKit

/-- The minute of the i-th entry. -/
def mi (l : List Ent) (i : Nat) : Int := match l[i]? with | some x => x.m | none => 0
theorem mi_eq {l : List Ent} {i : Nat} {x : Ent} (h : l[i]? = some x) : mi l i = x.m := by unfold mi; rw [h]
theorem Sl.mi {w : World} {lo hi b off : Nat} {l : List Ent} (hS : Ents w lo hi (some ⟨b, off, none⟩) l) {i : Nat} (h : i < l.length) : w.cell? ⟨b, off + i * 4 + 2, none⟩ = some (.int .i64 (mi l i)) := by
  obtain ⟨x, hx, _⟩ := get_lt h
  obtain ⟨b', off', e, _, _, _, hf⟩ := hS.at_ hx
  cases e
  rw [mi_eq hx]
  exact (hf 2 _ rfl).1
theorem logB_ok {l : List Ent} (h : logB l = true) {k : Nat} (hk : k < l.length) : okAt l k = true := by
  unfold logB at h
  rw [Bool.and_eq_true] at h
  exact List.all_eq_true.1 h.1 k (List.mem_range.2 hk)
theorem mi_in {l : List Ent} (h : logB l = true) {k : Nat} (hk : k < l.length) : 0 ≤ mi l k ∧ mi l k ≤ 99999 := by
  obtain ⟨x, hx, _⟩ := get_lt hk
  obtain ⟨y, hy, _⟩ := get_lt (l := l) (i := 0) (by omega)
  obtain ⟨z, hz, _⟩ := get_lt (l := l) (i := k - 1) (by omega)
  have := logB_ok h hk
  rw [okAt_eq hx hy hz] at this
  simp only [Bool.and_eq_true, entB, minB, inB, decide_eq_true_eq] at this
  rw [mi_eq hx]
  omega
theorem mi_up {l : List Ent} (h : logB l = true) {k : Nat} (hk : k + 1 < l.length) : mi l k ≤ mi l (k + 1) := by
  obtain ⟨x, hx, _⟩ := get_lt hk
  obtain ⟨y, hy, _⟩ := get_lt (l := l) (i := 0) (by omega)
  obtain ⟨z, hz, _⟩ := get_lt (l := l) (i := k) (by omega)
  have := logB_ok h hk
  rw [okAt_eq hx hy (z := z) (by simpa using hz)] at this
  simp only [Bool.and_eq_true, Bool.or_eq_true, decide_eq_true_eq] at this
  rw [mi_eq hx, mi_eq hz]
  omega
def bestF (l : List Ent) : Nat → Nat
  | 0 => 0
  | k + 1 => if mi l (bestF l k + 1) - mi l (bestF l k) < mi l (k + 1) - mi l k then k else bestF l k
theorem bestF_lt (l : List Ent) : ∀ k, bestF l k ≤ k - 1
  | 0 => Nat.le_refl _
  | k + 1 => by
    have := bestF_lt l k
    unfold bestF
    split <;> omega
def silentI (l : List Ent) : Int := if logB l = true ∧ 2 ≤ l.length then bestF l (l.length - 1) else 0
def silentT (l : List Ent) : Int := if logB l = true ∧ 2 ≤ l.length then mi l (bestF l (l.length - 1) + 1) - mi l (bestF l (l.length - 1)) else 0
def silentB (l : List Ent) : Bool := decide (logB l = true ∧ 2 ≤ l.length)
theorem silent_no {l : List Ent} (h : ¬ (logB l = true ∧ 2 ≤ l.length)) : silentI l = 0 ∧ silentT l = 0 ∧ silentB l = false := by simp only [silentI, silentT, silentB, if_neg h]; simp [h]
theorem silent_yes {l : List Ent} (h : logB l = true ∧ 2 ≤ l.length) : silentI l = bestF l (l.length - 1) ∧ silentT l = mi l (bestF l (l.length - 1) + 1) - mi l (bestF l (l.length - 1)) ∧ silentB l = true := by simp only [silentI, silentT, silentB, if_pos h]; simp [h]

set_option maxHeartbeats 1000000 in
theorem SilentTime_spec (A : Option Addr) (c : Nat) (l : List Ent) (w : World) (hl : l.length ≤ maxLen) (hm : ∀ x ∈ l, x.t.size ≤ maxLen) (hS : Ents w 0 w.heap.size A l) (hc : l.length ≤ c) :
    Calls Tryz.prog 35 #[.slice A l.length c] w (RV w (.tuple #[.int .i64 (silentI l), .int .i64 (silentT l), .bool (silentB l)])) := by
  have hl' := hl
  unfold maxLen at hl
  go_enter Tryz.func35, Tryz.ntmps35
  go_wp2_with fail
  refine (lgGood_any A c l _ hl' hm hS).mono ?_
  rintro e w1 ⟨rfl, hb⟩
  have hB1 : Below w.heap.size w w1 := Below.on' (by go_grown) hb
  clear hb
  by_cases hg : logB l = true ∧ 2 ≤ l.length
  rotate_left
  · have HN := Lib.hid (silent_no hg)
    by_cases hg1 : logB l = true
    · have h2 : ¬ 2 ≤ l.length := fun h => hg ⟨hg1, h⟩
      go_wp2
      go_ret3
      obtain ⟨e1, e2, e3⟩ := HN.out
      exact RV.mk (by rw [e1, e2, e3]; rfl) hB1
    · have hg1 : logB l = false := by simpa using hg1
      go_wp2
      go_ret3
      obtain ⟨e1, e2, e3⟩ := HN.out
      exact RV.mk (by rw [e1, e2, e3]; rfl) hB1
  have HY := Lib.hid (silent_yes hg)
  obtain ⟨hg1, hg2⟩ := hg
  obtain ⟨x, hx, _⟩ := get_lt (l := l) (i := 0) (by omega)
  have hS1 := hS.below hB1
  obtain ⟨b, off, rfl, _, _, _, _⟩ := hS1.at_ hx
  clear hx
  have hc1 : ¬ c = 1 := by omega
  have hc2 : 1 < c := by omega
  go_wp2_with fail
  go_loopw [18, 5] (fun i s wr => ∃ k : Nat, k ≤ l.length - 1 ∧ i = .int .i64 k ∧ s = .int .i64 (bestF l k) ∧ Below w.heap.size w wr) (fun i _ _ => l.length - (intOf i).toNat)
  case atStart => exact ⟨0, Nat.zero_le _, rfl, rfl, hB1⟩
  case round =>
    obtain ⟨k, hk, rfl, rfl, hB⟩ := hrel
    have hSr := hS.below hB
    clear hB1 hS1
    have hn := bestF_lt l k
    have HN1 : Hid (bestF l (k + 1) = if mi l (bestF l k + 1) - mi l (bestF l k) < mi l (k + 1) - mi l k then k else bestF l k) := Lib.hid rfl
    have HK : k = l.length - 1 → Hid (bestF l k = bestF l (l.length - 1)) := fun e => Lib.hid (by rw [e])
    generalize bestF l k = n at hn HN1 HK ⊢
    have hn1 : n + 1 < l.length := by omega
    have hn2 : n < l.length := by omega
    have d0 := hSr.mi hn1
    have d1 := hSr.mi hn2
    have r0 := mi_in hg1 hn1
    have r1 := mi_in hg1 hn2
    by_cases hlt : k < l.length - 1
    · have hk1 : k + 1 < l.length := by omega
      have hk2 : k < l.length := by omega
      have d2 := hSr.mi hk1
      have d3 := hSr.mi hk2
      have r2 := mi_in hg1 hk1
      have r3 := mi_in hg1 hk2
      by_cases hq : mi l (n + 1) - mi l n < mi l (k + 1) - mi l k
      · have HQ : Hid (bestF l (k + 1) = k) := Lib.hid (by rw [HN1.out, if_pos hq])
        go_wp2_with fail
        go_quiet (fail)
        have hBq : Below w.heap.size w (wr.drewN nq) := ⟨hB.os, hB.tape, hB.output, hB.size, hB.block⟩
        go_wp2
        go_roundw
        case rel => exact ⟨k + 1, by omega, by go_num, by rw [HQ.out], hBq⟩
        case measure => simp [intOf]; omega
      · have HQ : Hid (bestF l (k + 1) = n) := Lib.hid (by rw [HN1.out, if_neg hq])
        go_wp2_with fail
        go_quiet (fail)
        have hBq : Below w.heap.size w (wr.drewN nq) := ⟨hB.os, hB.tape, hB.output, hB.size, hB.block⟩
        go_wp2
        go_roundw
        case rel => exact ⟨k + 1, by omega, by go_num, by rw [HQ.out], hBq⟩
        case measure => simp [intOf]; omega
    · have HE := HK (by omega)
      go_wp2_with fail
      go_quiet (fail)
      have hBq : Below w.heap.size w (wr.drewN nq) := ⟨hB.os, hB.tape, hB.output, hB.size, hB.block⟩
      go_wp2
      go_ret3
      obtain ⟨e1, e2, e3⟩ := HY.out
      exact RV.mk (by rw [e1, e2, e3, ← HE.out]; rfl) hBq
set_option maxHeartbeats 1000000 in
theorem SilentTime_impl (A : Option Addr) (c : Nat) (l : List Ent) (w : World) (hl : l.length ≤ maxLen) (hm : ∀ x ∈ l, x.t.size ≤ maxLen) (hS : Ents w 0 w.heap.size A l) (hc : l.length ≤ c) :
    Calls Tryz.prog 34 #[.slice A l.length c] w (RV w (.tuple #[.int .i64 (silentI l), .int .i64 (silentT l), .bool (silentB l)])) := by
  have hl' := hl
  unfold maxLen at hl
  go_enter Tryz.func34, Tryz.ntmps34
  go_wp2_with fail
  refine (isLog_any A c l _ hl' hm hS).mono ?_
  rintro e w1 ⟨rfl, hb⟩
  have hB1 : Below w.heap.size w w1 := Below.on' (by go_grown) hb
  clear hb
  by_cases hg : logB l = true ∧ 2 ≤ l.length
  rotate_left
  · have HN := Lib.hid (silent_no hg)
    by_cases hg1 : logB l = true
    · have h2 : ¬ 2 ≤ l.length := fun h => hg ⟨hg1, h⟩
      go_wp2
      go_ret3
      obtain ⟨e1, e2, e3⟩ := HN.out
      exact RV.mk (by rw [e1, e2, e3]; rfl) hB1
    · have hg1 : logB l = false := by simpa using hg1
      go_wp2
      go_ret3
      obtain ⟨e1, e2, e3⟩ := HN.out
      exact RV.mk (by rw [e1, e2, e3]; rfl) hB1
  have HY := Lib.hid (silent_yes hg)
  obtain ⟨hg1, hg2⟩ := hg
  obtain ⟨x, hx, _⟩ := get_lt (l := l) (i := 0) (by omega)
  have hS1 := hS.below hB1
  obtain ⟨b, off, rfl, _, _, _, _⟩ := hS1.at_ hx
  clear hx
  have hc1 : ¬ c = 1 := by omega
  have hc2 : 1 < c := by omega
  go_wp2_with fail
  go_loopw [7, 5, 6] (fun i s q wr => ∃ k : Nat, k + 1 ≤ l.length ∧ i = .int .i64 (k + 1) ∧ s = .int .i64 (bestF l k) ∧ q = .int .i64 (if k = 0 then -1 else mi l (bestF l k + 1) - mi l (bestF l k)) ∧ Below w.heap.size w wr) (fun i _ _ _ => l.length - (intOf i).toNat)
  case atStart => exact ⟨0, by omega, rfl, rfl, rfl, hB1⟩
  case round =>
    obtain ⟨k, hk, rfl, rfl, rfl, hB⟩ := hrel
    have hSr := hS.below hB
    clear hB1 hS1
    have hn := bestF_lt l k
    have HN1 : Hid (bestF l (k + 1) = if mi l (bestF l k + 1) - mi l (bestF l k) < mi l (k + 1) - mi l k then k else bestF l k) := Lib.hid rfl
    have HK : k = l.length - 1 → Hid (bestF l k = bestF l (l.length - 1)) := fun e => Lib.hid (by rw [e])
    have HZ : k = 0 → Hid (bestF l k = 0) := fun e => Lib.hid (by subst e; rfl)
    generalize bestF l k = n at hn HN1 HK HZ ⊢
    have hn1 : n + 1 < l.length := by omega
    have hn2 : n < l.length := by omega
    have r0 := mi_in hg1 hn1
    have r1 := mi_in hg1 hn2
    generalize hq0 : (if k = 0 then (-1 : Int) else mi l (n + 1) - mi l n) = q
    by_cases hlt : k < l.length - 1
    · have hk1 : k + 1 < l.length := by omega
      have hk2 : k < l.length := by omega
      have d2 := hSr.mi hk1
      have d3 := hSr.mi hk2
      have r2 := mi_in hg1 hk1
      have r3 := mi_in hg1 hk2
      have r4 := mi_up hg1 hk1
      have hlt2 : (k : Int) + 1 < l.length := by omega
      have hw : IntKind.i64.wrap ((k : Int) + 1 - 1) = (k : Int) := by rw [IntWalk.i64_in _ (by omega)]; omega
      have hsub : (k : Int) + 1 - 1 = (k : Int) := by omega
      by_cases hq : q < mi l (k + 1) - mi l k
      · have HQ : Hid (bestF l (k + 1) = k) := Lib.hid (by
          rw [HN1.out]
          by_cases h0 : k = 0
          · have := (HZ h0).out
            split <;> omega
          · rw [if_neg h0] at hq0
            rw [if_pos (by omega)])
        have HQ2 : Hid (bestF l (k + 1) = k) := HQ
        clear hq0 HZ HN1 HK
        go_wp2_with fail
        go_quiet (fail)
        have hBq : Below w.heap.size w (wr.drewN nq) := ⟨hB.os, hB.tape, hB.output, hB.size, hB.block⟩
        go_wp2
        go_roundw
        case rel => exact ⟨k + 1, by omega, by go_num, by rw [HQ.out], by rw [HQ.out]; simp, hBq⟩
        case measure => simp [intOf]; omega
      · have HQ : Hid (bestF l (k + 1) = n ∧ q = mi l (n + 1) - mi l n) := Lib.hid (by
          rw [HN1.out]
          by_cases h0 : k = 0
          · rw [if_pos h0] at hq0
            omega
          · rw [if_neg h0] at hq0
            rw [if_neg (by omega)]
            exact ⟨rfl, hq0.symm⟩)
        clear hq0 HZ HN1 HK
        go_wp2_with fail
        go_quiet (fail)
        have hBq : Below w.heap.size w (wr.drewN nq) := ⟨hB.os, hB.tape, hB.output, hB.size, hB.block⟩
        go_wp2
        go_roundw
        case rel => exact ⟨k + 1, by omega, by go_num, by rw [HQ.out.1], by rw [HQ.out.1, HQ.out.2]; simp, hBq⟩
        case measure => simp [intOf]; omega
    · have HE := HK (by omega)
      have HQ : Hid (q = mi l (n + 1) - mi l n) := Lib.hid (by rw [if_neg (by omega)] at hq0; exact hq0.symm)
      have hlt2 : ¬ (k : Int) + 1 < l.length := by omega
      clear hq0 HZ HN1 HK
      go_wp2
      go_ret3
      obtain ⟨e1, e2, e3⟩ := HY.out
      exact RV.mk (by rw [e1, e2, e3, ← HE.out, HQ.out]; rfl) hB
end Go.Proofs.YtmdmcjhodhphgaaGreatDoor

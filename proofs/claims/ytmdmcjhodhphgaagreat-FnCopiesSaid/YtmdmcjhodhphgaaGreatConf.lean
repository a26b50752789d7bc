/- The first place where two logs differ, as the program and the reference find it. Conditions as in Log. -/
import Derived.Test.YtmdmcjhodhphgaaGreatLog
import Derived.BigQuiet
namespace Go.Proofs.YtmdmcjhodhphgaaGreat
open Go.RowKit

def eqE (x y : Ent) : Bool := decide (x.r = y.r) && decide (x.n = y.n) && decide (x.m = y.m) && decide (x.t.toList = y.t.toList)
def confF : List Ent → List Ent → Nat → Int × Bool
  | x :: a, y :: b, i => if eqE x y = true then confF a b (i + 1) else (i, true)
  | _, _, _ => (0, false)
theorem confF_step {a b : List Ent} {k : Nat} {x y : Ent} (hx : a[k]? = some x) (hy : b[k]? = some y) : confF (a.drop k) (b.drop k) k = if eqE x y = true then confF (a.drop (k + 1)) (b.drop (k + 1)) (k + 1) else (k, true) := by
  obtain ⟨h1, rfl⟩ := List.getElem?_eq_some_iff.1 hx
  obtain ⟨h2, rfl⟩ := List.getElem?_eq_some_iff.1 hy
  rw [List.drop_eq_getElem_cons h1, List.drop_eq_getElem_cons h2]
  rfl
theorem confF_end {a b : List Ent} {k : Nat} (h : ¬ (k < a.length ∧ k < b.length)) : confF (a.drop k) (b.drop k) k = (0, false) := by
  by_cases h1 : a.length ≤ k
  · rw [List.drop_of_length_le h1]; rfl
  · rw [List.drop_of_length_le (l := b) (by omega)]
    cases a.drop k <;> rfl
def twoB (a b : List Ent) : Bool := logB a && logB b
def confI (a b : List Ent) : Int := if twoB a b = true then (confF a b 0).1 else 0
def confB (a b : List Ent) : Bool := if twoB a b = true then (confF a b 0).2 else false

set_option maxHeartbeats 1000000 in
theorem mgTwo_any (A B : Option Addr) (c d : Nat) (a b : List Ent) (w : World) (hl : a.length ≤ maxLen) (hm : ∀ x ∈ a, x.t.size ≤ maxLen) (hS : Ents w 0 w.heap.size A a) (hl2 : b.length ≤ maxLen) (hm2 : ∀ x ∈ b, x.t.size ≤ maxLen) (hS2 : Ents w 0 w.heap.size B b) :
    Calls Tryz.prog 31 #[.slice A a.length c, .slice B b.length d] w (RV w (.bool (twoB a b))) := by
  go_enter Tryz.func31, Tryz.ntmps31
  go_wp2_with fail
  refine (lgGood_any A c a _ hl hm hS).mono ?_
  rintro e w1 ⟨rfl, hb⟩
  have hB1 : Below w.heap.size w w1 := Below.on' (by go_grown) hb
  have hS3 := (hS2.below hb).mono (Nat.le_refl _) hb.size (Nat.le_refl _)
  clear hb
  by_cases h1 : logB a = true
  · go_wp2_with fail
    refine (lgGood_any B d b _ hl2 hm2 hS3).mono ?_
    rintro e w2 ⟨rfl, hb⟩
    have hB2 : Below w.heap.size w w2 := Below.on' hB1 hb
    go_wp2
    go_ret
    exact RV.mk (vbool (by simp [twoB, h1])) hB2
  · have h1 : logB a = false := by simpa using h1
    go_wp2
    go_ret
    exact RV.mk (vbool (by simp [twoB, h1])) hB1
set_option maxHeartbeats 1000000 in
theorem FirstConflict_spec (A B : Option Addr) (c d : Nat) (a b : List Ent) (w : World) (hl : a.length ≤ maxLen) (hm : ∀ x ∈ a, x.t.size ≤ maxLen) (hS : Ents w 0 w.heap.size A a) (hl2 : b.length ≤ maxLen) (hm2 : ∀ x ∈ b, x.t.size ≤ maxLen) (hS2 : Ents w 0 w.heap.size B b) :
    Calls Tryz.prog 9 #[.slice A a.length c, .slice B b.length d] w (RV w (.tuple #[.int .i64 (confI a b), .bool (confB a b)])) := by
  have hl' := hl
  have hl2' := hl2
  unfold maxLen at hl hl2
  go_enter Tryz.func9, Tryz.ntmps9
  go_wp2_with fail
  refine (mgTwo_any A B c d a b _ hl' hm hS hl2' hm2 hS2).mono ?_
  rintro e w1 ⟨rfl, hb⟩
  have hB1 : Below w.heap.size w w1 := Below.on' (by go_grown) hb
  clear hb
  by_cases hg : twoB a b = true
  rotate_left
  · have hg : twoB a b = false := by simpa using hg
    have HN : Hid (confI a b = 0 ∧ confB a b = false) := Lib.hid (by simp [confI, confB, hg])
    go_wp2
    go_ret2
    obtain ⟨e1, e2⟩ := HN.out
    exact RV.mk (by rw [e1, e2]; rfl) hB1
  have HY : Hid (confI a b = (confF a b 0).1 ∧ confB a b = (confF a b 0).2) := Lib.hid (by simp [confI, confB, hg])
  go_wp2_with fail
  go_loopw [6] (fun i wr => ∃ k : Nat, k ≤ a.length ∧ k ≤ b.length ∧ i = .int .i64 k ∧ confF (a.drop k) (b.drop k) k = confF a b 0 ∧ Below w.heap.size w wr) (fun i _ => a.length - (intOf i).toNat)
  case atStart => exact ⟨0, Nat.zero_le _, Nat.zero_le _, rfl, rfl, hB1⟩
  case round =>
    obtain ⟨k, hk, hk2, rfl, hC, hB⟩ := hrel
    by_cases hlt : k < a.length ∧ k < b.length
    · obtain ⟨h1, h2⟩ := hlt
      obtain ⟨x, hx, _⟩ := get_lt h1
      obtain ⟨y, hy, _⟩ := get_lt h2
      have HC := Lib.hid (confF_step hx hy)
      obtain ⟨p, off, rfl, _, _, _, hf⟩ := (hS.below hB).at_ hx
      have c0 : wr.cell? ⟨p, off + k * 4, none⟩ = some (.int .i64 x.r) := (hf 0 _ rfl).1
      have c1 : wr.cell? ⟨p, off + k * 4 + 1, none⟩ = some (.int .i64 x.n) := (hf 1 _ rfl).1
      have c2 : wr.cell? ⟨p, off + k * 4 + 2, none⟩ = some (.int .i64 x.m) := (hf 2 _ rfl).1
      have c3 : wr.cell? ⟨p, off + k * 4 + 3, none⟩ = some (.string x.t) := (hf 3 _ rfl).1
      clear hf hx
      obtain ⟨p', off', rfl, _, _, _, hf⟩ := (hS2.below hB).at_ hy
      have d0 : wr.cell? ⟨p', off' + k * 4, none⟩ = some (.int .i64 y.r) := (hf 0 _ rfl).1
      have d1 : wr.cell? ⟨p', off' + k * 4 + 1, none⟩ = some (.int .i64 y.n) := (hf 1 _ rfl).1
      have d2 : wr.cell? ⟨p', off' + k * 4 + 2, none⟩ = some (.int .i64 y.m) := (hf 2 _ rfl).1
      have d3 : wr.cell? ⟨p', off' + k * 4 + 3, none⟩ = some (.string y.t) := (hf 3 _ rfl).1
      clear hf hy
      go_wp2_with fail
      refine wp_region_quiet_lit (by kernel_rfl) (by kernel_rfl) ?_
      iterate 8 quiet_step (fail)
      refine wpQuiet_step (fun K hK => ?_)
      go_simp
      refine ⟨.bool (!eqE x y), fun n => ?_, hK _ ?_⟩
      · by_cases q0 : x.r = y.r <;> by_cases q1 : x.n = y.n <;> by_cases q2 : x.m = y.m <;> by_cases q3 : x.t.toList = y.t.toList <;> simp [eqE, q0, q1, q2, q3]
      clear hK K
      refine wpQuiet_nil ?_
      intro _ hw'
      obtain ⟨nq, hw''⟩ := hw'
      subst hw''
      have hBq : Below w.heap.size w (wr.drewN nq) := ⟨hB.os, hB.tape, hB.output, hB.size, hB.block⟩
      by_cases hq : eqE x y = true
      · have HQ := Lib.hid (HC.out.trans (if_pos hq))
        have hC' := Lib.hid hC
        clear HC hC c0 c1 c2 c3 d0 d1 d2 d3
        rw [show (!eqE x y) = false by rw [hq]; rfl]
        go_wp2
        go_roundw
        case rel => exact ⟨k + 1, by omega, by omega, by go_num, HQ.out.symm.trans hC'.out, hBq⟩
        case measure => simp [intOf]; omega
      · have HQ := Lib.hid (HC.out.trans (if_neg hq))
        have hq : eqE x y = false := by simpa using hq
        have hC' := Lib.hid hC
        clear HC hC c0 c1 c2 c3 d0 d1 d2 d3
        rw [show (!eqE x y) = true by rw [hq]; rfl]
        go_wp2
        go_ret2
        obtain ⟨e1, e2⟩ := HY.out
        exact RV.mk (by rw [e1, e2, ← hC'.out, HQ.out]; rfl) hBq
    · have HQ := Lib.hid (confF_end hlt)
      have hC' := Lib.hid hC
      clear hC
      by_cases h1 : k < a.length
      · have h2 : ¬ k < b.length := fun h => hlt ⟨h1, h⟩
        go_wp2
        go_ret2
        obtain ⟨e1, e2⟩ := HY.out
        exact RV.mk (by rw [e1, e2, ← hC'.out, HQ.out]; rfl) hB
      · go_wp2
        go_ret2
        obtain ⟨e1, e2⟩ := HY.out
        exact RV.mk (by rw [e1, e2, ← hC'.out, HQ.out]; rfl) hB
set_option maxHeartbeats 1000000 in
theorem FirstConflict_impl (A B : Option Addr) (c d : Nat) (a b : List Ent) (w : World) (hl : a.length ≤ maxLen) (hm : ∀ x ∈ a, x.t.size ≤ maxLen) (hS : Ents w 0 w.heap.size A a) (hl2 : b.length ≤ maxLen) (hm2 : ∀ x ∈ b, x.t.size ≤ maxLen) (hS2 : Ents w 0 w.heap.size B b) :
    Calls Tryz.prog 8 #[.slice A a.length c, .slice B b.length d] w (RV w (.tuple #[.int .i64 (confI a b), .bool (confB a b)])) := by
  have hl' := hl
  have hl2' := hl2
  unfold maxLen at hl hl2
  go_enter Tryz.func8, Tryz.ntmps8
  go_wp2_with fail
  refine (isLog_any A c a _ hl' hm hS).mono ?_
  rintro e w0 ⟨rfl, hb⟩
  have hB0 : Below w.heap.size w w0 := Below.on' (by go_grown) hb
  have hS3 := (hS2.below hb).mono (Nat.le_refl _) hb.size (Nat.le_refl _)
  clear hb
  by_cases g1 : logB a = true
  rotate_left
  · have g1 : logB a = false := by simpa using g1
    have HN : Hid (confI a b = 0 ∧ confB a b = false) := Lib.hid (by simp [confI, confB, twoB, g1])
    go_wp2
    go_ret2
    obtain ⟨e1, e2⟩ := HN.out
    exact RV.mk (by rw [e1, e2]; rfl) hB0
  go_wp2_with fail
  refine (isLog_any B d b _ hl2' hm2 hS3).mono ?_
  rintro e w1 ⟨rfl, hb⟩
  have hB1 : Below w.heap.size w w1 := Below.on' hB0 hb
  clear hb hS3
  by_cases g2 : logB b = true
  rotate_left
  · have g2 : logB b = false := by simpa using g2
    have HN : Hid (confI a b = 0 ∧ confB a b = false) := Lib.hid (by simp [confI, confB, twoB, g2])
    go_wp2
    go_ret2
    obtain ⟨e1, e2⟩ := HN.out
    exact RV.mk (by rw [e1, e2]; rfl) hB1
  have hg : twoB a b = true := by simp [twoB, g1, g2]
  have HY : Hid (confI a b = (confF a b 0).1 ∧ confB a b = (confF a b 0).2) := Lib.hid (by simp [confI, confB, hg])
  go_wp2_with fail
  go_loopw [20] (fun i wr => ∃ k : Nat, k ≤ a.length ∧ k ≤ b.length ∧ i = .int .i64 k ∧ confF (a.drop k) (b.drop k) k = confF a b 0 ∧ Below w.heap.size w wr) (fun i _ => a.length - (intOf i).toNat)
  case atStart => exact ⟨0, Nat.zero_le _, Nat.zero_le _, rfl, rfl, hB1⟩
  case round =>
    obtain ⟨k, hk, hk2, rfl, hC, hB⟩ := hrel
    by_cases hlt : k < a.length ∧ k < b.length
    · obtain ⟨h1, h2⟩ := hlt
      obtain ⟨x, hx, _⟩ := get_lt h1
      obtain ⟨y, hy, _⟩ := get_lt h2
      have HC := Lib.hid (confF_step hx hy)
      obtain ⟨p, off, rfl, _, _, _, hf⟩ := (hS.below hB).at_ hx
      have c0 : wr.cell? ⟨p, off + k * 4, none⟩ = some (.int .i64 x.r) := (hf 0 _ rfl).1
      have c1 : wr.cell? ⟨p, off + k * 4 + 1, none⟩ = some (.int .i64 x.n) := (hf 1 _ rfl).1
      have c2 : wr.cell? ⟨p, off + k * 4 + 2, none⟩ = some (.int .i64 x.m) := (hf 2 _ rfl).1
      have c3 : wr.cell? ⟨p, off + k * 4 + 3, none⟩ = some (.string x.t) := (hf 3 _ rfl).1
      clear hf hx
      obtain ⟨p', off', rfl, _, _, _, hf⟩ := (hS2.below hB).at_ hy
      have d0 : wr.cell? ⟨p', off' + k * 4, none⟩ = some (.int .i64 y.r) := (hf 0 _ rfl).1
      have d1 : wr.cell? ⟨p', off' + k * 4 + 1, none⟩ = some (.int .i64 y.n) := (hf 1 _ rfl).1
      have d2 : wr.cell? ⟨p', off' + k * 4 + 2, none⟩ = some (.int .i64 y.m) := (hf 2 _ rfl).1
      have d3 : wr.cell? ⟨p', off' + k * 4 + 3, none⟩ = some (.string y.t) := (hf 3 _ rfl).1
      clear hf hy
      go_wp2_with fail
      refine wp_region_quiet_lit (by kernel_rfl) (by kernel_rfl) ?_
      iterate 8 quiet_step (fail)
      refine wpQuiet_step (fun K hK => ?_)
      go_simp
      refine ⟨.bool (!eqE x y), fun n => ?_, hK _ ?_⟩
      · by_cases q0 : x.r = y.r <;> by_cases q1 : x.n = y.n <;> by_cases q2 : x.m = y.m <;> by_cases q3 : x.t.toList = y.t.toList <;> simp [eqE, q0, q1, q2, q3]
      clear hK K
      refine wpQuiet_nil ?_
      intro _ hw'
      obtain ⟨nq, hw''⟩ := hw'
      subst hw''
      have hBq : Below w.heap.size w (wr.drewN nq) := ⟨hB.os, hB.tape, hB.output, hB.size, hB.block⟩
      by_cases hq : eqE x y = true
      · have HQ := Lib.hid (HC.out.trans (if_pos hq))
        have hC' := Lib.hid hC
        clear HC hC c0 c1 c2 c3 d0 d1 d2 d3
        rw [show (!eqE x y) = false by rw [hq]; rfl]
        go_wp2
        go_roundw
        case rel => exact ⟨k + 1, by omega, by omega, by go_num, HQ.out.symm.trans hC'.out, hBq⟩
        case measure => simp [intOf]; omega
      · have HQ := Lib.hid (HC.out.trans (if_neg hq))
        have hq : eqE x y = false := by simpa using hq
        have hC' := Lib.hid hC
        clear HC hC c0 c1 c2 c3 d0 d1 d2 d3
        rw [show (!eqE x y) = true by rw [hq]; rfl]
        go_wp2
        go_ret2
        obtain ⟨e1, e2⟩ := HY.out
        exact RV.mk (by rw [e1, e2, ← hC'.out, HQ.out]; rfl) hBq
    · have HQ := Lib.hid (confF_end hlt)
      have hC' := Lib.hid hC
      clear hC
      have h3 : ¬ (k : Int) < min (a.length : Int) b.length := by omega
      go_wp2
      go_ret2
      obtain ⟨e1, e2⟩ := HY.out
      exact RV.mk (by rw [e1, e2, ← hC'.out, HQ.out]; rfl) hB
end Go.Proofs.YtmdmcjhodhphgaaGreat

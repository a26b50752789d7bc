/- Whether one log is a beginning of another, as the program and the reference test it. Conditions as in Log. -/
import Derived.Test.YtmdmcjhodhphgaaGreatConf
namespace Go.Proofs.YtmdmcjhodhphgaaGreat
open Go.RowKit

def begF : List Ent → List Ent → Bool
  | [], _ => true
  | x :: a, y :: b => eqE x y && begF a b
  | _ :: _, [] => false
theorem begF_step {a b : List Ent} {k : Nat} {x y : Ent} (hx : a[k]? = some x) (hy : b[k]? = some y) : begF (a.drop k) (b.drop k) = (eqE x y && begF (a.drop (k + 1)) (b.drop (k + 1))) := by
  obtain ⟨h1, rfl⟩ := List.getElem?_eq_some_iff.1 hx
  obtain ⟨h2, rfl⟩ := List.getElem?_eq_some_iff.1 hy
  rw [List.drop_eq_getElem_cons h1, List.drop_eq_getElem_cons h2]
  rfl
theorem begF_end {a b : List Ent} {k : Nat} (h : a.length ≤ k) : begF (a.drop k) (b.drop k) = true := by rw [List.drop_of_length_le h]; cases b.drop k <;> rfl
theorem begF_len : ∀ {a b : List Ent}, b.length < a.length → begF a b = false
  | [], _, h => by simp at h
  | _ :: _, [], _ => rfl
  | x :: a, y :: b, h => by
    have := begF_len (a := a) (b := b) (by simpa using h)
    simp [begF, this]
theorem begF_take : ∀ (a b : List Ent), begF a (b.take a.length) = begF a b
  | [], b => by cases b <;> rfl
  | _ :: _, [] => by simp
  | x :: a, y :: b => by simp [begF, begF_take a b]
theorem Sl.take {α : Type} {E : α → List Value} {k : Nat} {w : World} {lo hi : Nat} {A : Option Addr} {l : List α} (h : Sl E k w lo hi A l) (n : Nat) : Sl E k w lo hi A (l.take n) := fun hn => by
  obtain ⟨b, off, e, c, d, g, f⟩ := h (by rintro rfl; simp at hn)
  refine ⟨b, off, e, c, d, g, fun i x hx => f i x ?_⟩
  rw [List.getElem?_take] at hx
  split at hx
  · exact hx
  · cases hx

theorem eqE_comm (x y : Ent) : eqE x y = eqE y x := by unfold eqE; simp only [eq_comm]
set_option maxHeartbeats 1000000 in
theorem Equal_any (A B : Option Addr) (c d : Nat) (a b : List Ent) (w : World) (hl : a.length ≤ maxLen) (hS : Ents w 0 w.heap.size A a) (_hl2 : b.length ≤ maxLen) (hS2 : Ents w 0 w.heap.size B b) :
    Calls Tryz.prog 58 #[.slice A a.length c, .slice B b.length d] w (RV w (.bool (decide (a.length = b.length) && begF a b))) := by
  unfold maxLen at hl
  go_enter Tryz.func58, Tryz.ntmps58
  by_cases hab : a.length = b.length
  rotate_left
  · have HN : Hid ((decide (a.length = b.length) && begF a b) = false) := Lib.hid (by simp [hab])
    have hab2 : ¬ (a.length : Int) = b.length := by omega
    go_wp2
    go_ret
    exact RV.mk (by rw [HN.out]; rfl) (Below.refl _ _)
  have HY : Hid ((decide (a.length = b.length) && begF a b) = begF a b) := Lib.hid (by simp [hab])
  have hab2 : (a.length : Int) = b.length := by omega
  go_wp2_with fail
  have hab3 : a.length ≤ b.length := by omega
  have hab4 : b.length ≤ a.length := by omega
  clear hab hab2
  go_loopw [13] (fun i wr => ∃ k : Nat, k ≤ a.length ∧ i = .int .i64 k ∧ begF (a.drop k) (b.drop k) = begF a b ∧ Below w.heap.size w wr) (fun i _ => a.length - (intOf i).toNat)
  case atStart => exact ⟨0, Nat.zero_le _, rfl, rfl, Below.refl _ _⟩
  case round =>
    obtain ⟨k, hk, rfl, hC, hB⟩ := hrel
    by_cases h1 : k < a.length
    · have h2 : k < b.length := by omega
      obtain ⟨x, hx, _⟩ := get_lt h1
      obtain ⟨y, hy, _⟩ := get_lt h2
      have HC := Lib.hid (begF_step hx hy)
      obtain ⟨p, off, rfl, _, _, _, hf⟩ := (hS.below hB).at_ hx
      have c0 : wr.cell? ⟨p, off + k * 4, none⟩ = some (.int .i64 x.r) := (hf 0 _ rfl).1
      have c1 : wr.cell? ⟨p, off + k * 4 + 1, none⟩ = some (.int .i64 x.n) := (hf 1 _ rfl).1
      have c2 : wr.cell? ⟨p, off + k * 4 + 2, none⟩ = some (.int .i64 x.m) := (hf 2 _ rfl).1
      have c3 : wr.cell? ⟨p, off + k * 4 + 3, none⟩ = some (.string x.t) := (hf 3 _ rfl).1
      clear hf hx
      obtain ⟨p', off', rfl, _, _, _, hf⟩ := (hS2.below hB).at_ hy
      have d0 : wr.cell? ⟨p', off' + k * 4, none⟩ = some (.int .i64 y.r) := (hf 0 _ rfl).1
      have d1 : wr.cell? ⟨p', off' + k * 4 + 1, none⟩ = some (.int .i64 y.n) := (hf 1 _ rfl).1
      have d2 : wr.cell? ⟨p', off' + k * 4 + 2, none⟩ = some (.int .i64 y.m) := (hf 2 _ rfl).1
      have d3 : wr.cell? ⟨p', off' + k * 4 + 3, none⟩ = some (.string y.t) := (hf 3 _ rfl).1
      clear hf hy
      go_wp2_with fail
      have hBV := hB
      refine wp_region_quiet_lit (by kernel_rfl) (by kernel_rfl) ?_
      iterate 8 quiet_step (fail)
      refine wpQuiet_step (fun K hK => ?_)
      go_simp
      refine ⟨.bool (!eqE x y), fun n => ?_, hK _ ?_⟩
      · by_cases q0 : x.r = y.r <;> by_cases q1 : x.n = y.n <;> by_cases q2 : x.m = y.m <;> by_cases q3 : x.t.toList = y.t.toList <;> simp [eqE, q0, q1, q2, q3]
      clear hK K
      refine wpQuiet_nil ?_
      intro _ hw'
      obtain ⟨nq, hw''⟩ := hw'
      subst hw''
      have hBq : Below w.heap.size w (wr.drewN nq) := ⟨hBV.os, hBV.tape, hBV.output, hBV.size, hBV.block⟩
      have hC' := Lib.hid hC
      clear hC c0 c1 c2 c3 d0 d1 d2 d3
      by_cases hq : eqE x y = true
      · have HQ : Hid (begF (a.drop k) (b.drop k) = begF (a.drop (k + 1)) (b.drop (k + 1))) := Lib.hid (HC.out.trans (by rw [hq]; rfl))
        clear HC
        rw [show (!eqE x y) = false by rw [hq]; rfl]
        go_wp2
        go_roundw
        case rel => exact ⟨k + 1, by omega, by go_num, HQ.out.symm.trans hC'.out, hBq⟩
        case measure => simp [intOf]; omega
      · have hq : eqE x y = false := by simpa using hq
        have HQ : Hid (begF (a.drop k) (b.drop k) = false) := Lib.hid (HC.out.trans (by rw [hq]; rfl))
        clear HC
        rw [show (!eqE x y) = true by rw [hq]; rfl]
        go_wp2
        go_ret
        exact RV.mk (by rw [HY.out, ← hC'.out, HQ.out]; rfl) hBq
    · have HQ := Lib.hid (begF_end (a := a) (b := b) (k := k) (by omega))
      have hC' := Lib.hid hC
      clear hC
      have h2 : ¬ k < b.length := by omega
      go_wp2
      go_ret
      exact RV.mk (by rw [HY.out, ← hC'.out, HQ.out]; rfl) hB
set_option maxHeartbeats 1000000 in
theorem mgBegins_any (A B : Option Addr) (c d : Nat) (a b : List Ent) (w : World) (_hl : a.length ≤ maxLen) (hS : Ents w 0 w.heap.size A a) (hl2 : b.length ≤ maxLen) (hS2 : Ents w 0 w.heap.size B b) :
    Calls Tryz.prog 36 #[.slice A a.length c, .slice B b.length d] w (RV w (.bool (begF a b))) := by
  unfold maxLen at hl2
  go_enter Tryz.func36, Tryz.ntmps36
  by_cases hab : b.length < a.length
  · have HN : Hid (begF a b = false) := Lib.hid (begF_len hab)
    have hab2 : (b.length : Int) < a.length := by omega
    go_wp2
    go_ret
    exact RV.mk (by rw [HN.out]; rfl) (Below.refl _ _)
  have hab2 : ¬ (b.length : Int) < a.length := by omega
  go_wp2_with fail
  go_loopw [14] (fun i wr => ∃ k : Nat, k ≤ a.length ∧ i = .int .i64 k ∧ begF (a.drop k) (b.drop k) = begF a b ∧ Below w.heap.size w wr) (fun i _ => a.length - (intOf i).toNat)
  case atStart => exact ⟨0, Nat.zero_le _, rfl, rfl, Below.refl _ _⟩
  case round =>
    obtain ⟨k, hk, rfl, hC, hB⟩ := hrel
    by_cases h1 : k < a.length
    · have h2 : k < b.length := by omega
      obtain ⟨x, hx, _⟩ := get_lt h1
      obtain ⟨y, hy, _⟩ := get_lt h2
      have HC := Lib.hid (begF_step hx hy)
      obtain ⟨p, off, rfl, _, _, _, hf⟩ := (hS.below hB).at_ hx
      have c0 : wr.cell? ⟨p, off + k * 4, none⟩ = some (.int .i64 x.r) := (hf 0 _ rfl).1
      have c1 : wr.cell? ⟨p, off + k * 4 + 1, none⟩ = some (.int .i64 x.n) := (hf 1 _ rfl).1
      have c2 : wr.cell? ⟨p, off + k * 4 + 2, none⟩ = some (.int .i64 x.m) := (hf 2 _ rfl).1
      have c3 : wr.cell? ⟨p, off + k * 4 + 3, none⟩ = some (.string x.t) := (hf 3 _ rfl).1
      clear hf hx
      obtain ⟨p', off', rfl, _, _, _, hf⟩ := (hS2.below hB).at_ hy
      have d0 : wr.cell? ⟨p', off' + k * 4, none⟩ = some (.int .i64 y.r) := (hf 0 _ rfl).1
      have d1 : wr.cell? ⟨p', off' + k * 4 + 1, none⟩ = some (.int .i64 y.n) := (hf 1 _ rfl).1
      have d2 : wr.cell? ⟨p', off' + k * 4 + 2, none⟩ = some (.int .i64 y.m) := (hf 2 _ rfl).1
      have d3 : wr.cell? ⟨p', off' + k * 4 + 3, none⟩ = some (.string y.t) := (hf 3 _ rfl).1
      clear hf hy
      go_wp2_with fail
      have z0 := lay (.cells #[Value.int .i64 x.r, Value.int .i64 x.n, Value.int .i64 x.m, Value.string x.t] 38) d0
      have z1 := lay (.cells #[Value.int .i64 x.r, Value.int .i64 x.n, Value.int .i64 x.m, Value.string x.t] 38) d1
      have z2 := lay (.cells #[Value.int .i64 x.r, Value.int .i64 x.n, Value.int .i64 x.m, Value.string x.t] 38) d2
      have z3 := lay (.cells #[Value.int .i64 x.r, Value.int .i64 x.n, Value.int .i64 x.m, Value.string x.t] 38) d3
      generalize hW : wr.alloc (Obj.cells #[Value.int .i64 x.r, Value.int .i64 x.n, Value.int .i64 x.m, Value.string x.t] 38) = Va at z0 z1 z2 z3 ⊢
      have hBV : Below w.heap.size w Va := by rw [← hW]; exact hB.alloc hB.size _
      have q0 : Va.cell? ⟨wr.heap.size, 0, none⟩ = some (.int .i64 x.r) := by rw [← hW, World.cell?_alloc_at _ _ _ _ rfl]; rfl
      have q1 : Va.cell? ⟨wr.heap.size, 1, none⟩ = some (.int .i64 x.n) := by rw [← hW, World.cell?_alloc_at _ _ _ _ rfl]; rfl
      have q2 : Va.cell? ⟨wr.heap.size, 2, none⟩ = some (.int .i64 x.m) := by rw [← hW, World.cell?_alloc_at _ _ _ _ rfl]; rfl
      have q3 : Va.cell? ⟨wr.heap.size, 3, none⟩ = some (.string x.t) := by rw [← hW, World.cell?_alloc_at _ _ _ _ rfl]; rfl
      clear hW c0 c1 c2 c3 d0 d1 d2 d3
      refine wp_region_quiet_lit (by kernel_rfl) (by kernel_rfl) ?_
      iterate 5 quiet_step (fail)
      refine wpQuiet_step (fun K hK => ?_)
      go_simp
      refine ⟨.bool (!eqE y x), fun n => ?_, hK _ ?_⟩
      · by_cases q0 : y.r = x.r <;> by_cases q1 : y.n = x.n <;> by_cases q2 : y.m = x.m <;> by_cases q3 : y.t.toList = x.t.toList <;> simp [eqE, q0, q1, q2, q3]
      clear hK K
      refine wpQuiet_nil ?_
      intro _ hw'
      obtain ⟨nq, hw''⟩ := hw'
      subst hw''
      have hBq : Below w.heap.size w (Va.drewN nq) := ⟨hBV.os, hBV.tape, hBV.output, hBV.size, hBV.block⟩
      have hC' := Lib.hid hC
      rw [eqE_comm y x]
      clear hC z0 z1 z2 z3 q0 q1 q2 q3
      by_cases hq : eqE x y = true
      · have HQ : Hid (begF (a.drop k) (b.drop k) = begF (a.drop (k + 1)) (b.drop (k + 1))) := Lib.hid (HC.out.trans (by rw [hq]; rfl))
        clear HC
        rw [show (!eqE x y) = false by rw [hq]; rfl]
        go_wp2
        go_roundw
        case rel => exact ⟨k + 1, by omega, by go_num, HQ.out.symm.trans hC'.out, hBq⟩
        case measure => simp [intOf]; omega
      · have hq : eqE x y = false := by simpa using hq
        have HQ : Hid (begF (a.drop k) (b.drop k) = false) := Lib.hid (HC.out.trans (by rw [hq]; rfl))
        clear HC
        rw [show (!eqE x y) = true by rw [hq]; rfl]
        go_wp2
        go_ret
        exact RV.mk (by rw [← hC'.out, HQ.out]; rfl) hBq
    · have HQ := Lib.hid (begF_end (a := a) (b := b) (k := k) (by omega))
      have hC' := Lib.hid hC
      clear hC
      skip
      go_wp2
      go_ret
      exact RV.mk (by rw [← hC'.out, HQ.out]; rfl) hB
end Go.Proofs.YtmdmcjhodhphgaaGreat

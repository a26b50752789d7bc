/- The leases, fourth text: what the program's answer to one request returns. No conditions. -/
import Derived.Test.YtdponfmhpedccaaLeaseC
import Derived.Deep.DeepCutAuto
namespace Go.Proofs.Ytdponfmhpedccaa
open Go.RowKit

/-- What the variables of a call of answer hold: the lease, the request, the result, and (block bx) the next lease. -/
structure Ans (h u m r k : Int) (w X : World) : Prop where
  c0 : X.cell? ⟨w.heap.size, 0, none⟩ = some (.int .i64 h)
  c1 : X.cell? ⟨w.heap.size, 1, none⟩ = some (.int .i64 u)
  c2 : X.cell? ⟨w.heap.size + 1, 0, none⟩ = some (.int .i64 m)
  c3 : X.cell? ⟨w.heap.size + 1, 1, none⟩ = some (.int .i64 r)
  c4 : X.cell? ⟨w.heap.size + 1, 2, none⟩ = some (.int .i64 k)
  c5 : X.cell? ⟨w.heap.size + 1 + 1, 0, none⟩ = some (.int .i64 0)
  c6 : X.cell? ⟨w.heap.size + 1 + 1, 1, none⟩ = some (.int .i64 0)
  f5 : X.frozen? ⟨w.heap.size + 1 + 1, 0, none⟩ = false
  f6 : X.frozen? ⟨w.heap.size + 1 + 1, 1, none⟩ = false
  hz : w.heap.size + 1 + 1 < X.heap.size
  hB : Below w.heap.size w X
structure Nxt (h u : Int) (w X : World) (bx : Nat) : Prop where
  hx : w.heap.size + 1 + 1 < bx
  c7 : X.cell? ⟨bx, 0, none⟩ = some (.int .i64 h)
  c8 : X.cell? ⟨bx, 1, none⟩ = some (.int .i64 u)
  f7 : X.frozen? ⟨bx, 0, none⟩ = false
  f8 : X.frozen? ⟨bx, 1, none⟩ = false
theorem Ans.next {h u m r k : Int} {w X X' : World} (a : Ans h u m r k w X) (hb : Below X.heap.size X X') : Ans h u m r k w X' :=
  ⟨keep hb a.c0, keep hb a.c1, keep hb a.c2, keep hb a.c3, keep hb a.c4, keep hb a.c5, keep hb a.c6, keepF hb a.hz a.f5, keepF hb a.hz a.f6, Nat.lt_of_lt_of_le a.hz hb.size, Below.on' a.hB hb⟩
theorem Nxt.next {h u : Int} {w X X' : World} {bx : Nat} (a : Nxt h u w X bx) (hb : Below X.heap.size X X') : Nxt h u w X' bx :=
  ⟨a.hx, keep hb a.c7, keep hb a.c8, keepF hb (show bx < X.heap.size from World.block_lt_of_cell? _ _ a.c7) a.f7, keepF hb (show bx < X.heap.size from World.block_lt_of_cell? _ _ a.c7) a.f8⟩
theorem Nxt.drew {h u : Int} {w X : World} {bx : Nat} (a : Nxt h u w X bx) : Nxt h u w X.drew bx := ⟨a.hx, a.c7, a.c8, a.f7, a.f8⟩
theorem Ans.drew {h u m r k : Int} {w X : World} (a : Ans h u m r k w X) : Ans h u m r k w X.drew := ⟨a.c0, a.c1, a.c2, a.c3, a.c4, a.c5, a.c6, a.f5, a.f6, a.hz, a.hB.drew⟩
theorem Ans.set {h u m r k : Int} {w X : World} (a : Ans h u m r k w X) {p : Addr} (hp : w.heap.size + 1 + 1 < p.block) (v : Value) : Ans h u m r k w (X.setCell p v) := by
  refine ⟨unset a.c0 ?_, unset a.c1 ?_, unset a.c2 ?_, unset a.c3 ?_, unset a.c4 ?_, unset a.c5 ?_, unset a.c6 ?_, ?_, ?_, ?_, a.hB.setCell (by omega) _⟩ <;> first | (rw [World.frozen?_setCell]; first | exact a.f5 | exact a.f6) | (simp [World.setCell]; exact a.hz) | (simp; omega)
theorem Nxt.of_alloc {h u : Int} {w X : World} (hz : w.heap.size + 1 + 1 < X.heap.size) (t : TypeId) : Nxt h u w (X.alloc (.cells #[.int .i64 h, .int .i64 u] t)) X.heap.size :=
  ⟨hz, by simp, by simp, World.frozen?_alloc_at _ _ _ _ rfl, World.frozen?_alloc_at _ _ _ _ rfl⟩
theorem Nxt.set {h u h' u' : Int} {w X : World} {bx : Nat} (a : Nxt h u w X bx) : Nxt h' u' w ((X.setCell ⟨bx, 0, none⟩ (.int .i64 h')).setCell ⟨bx, 1, none⟩ (.int .i64 u')) bx := by
  refine ⟨a.hx, ?_, ?_, ?_, ?_⟩
  · rw [World.cell?_setCell_other _ _ _ _ (by simp)]; exact World.cell?_setCell_same _ _ _ a.c7
  · exact World.cell?_setCell_same _ _ _ ((World.cell?_setCell_other _ _ _ _ (by simp)).trans a.c8)
  · rw [World.frozen?_setCell, World.frozen?_setCell]; exact a.f7
  · rw [World.frozen?_setCell, World.frozen?_setCell]; exact a.f8

set_option maxHeartbeats 4000000 in
theorem answer_any (h u m r k s l : Int) (w : World) : Calls Try.prog 64 #[.agg #[.int .i64 h, .int .i64 u], .agg #[.int .i64 m, .int .i64 r, .int .i64 k], .int .i64 s, .int .i64 l] w (RV w (.tuple #[.agg #[.int .i64 (answerG h u m r k s l).1.1, .int .i64 (answerG h u m r k s l).1.2], .bool (answerG h u m r k s l).2])) := by
  have hA : Ans h u m r k w (((w.alloc (.cells #[.int .i64 h, .int .i64 u] 25)).alloc (.cells #[.int .i64 m, .int .i64 r, .int .i64 k] 45)).alloc (.cells #[.int .i64 0, .int .i64 0] 25)) := by
    refine ⟨lay _ (lay _ (by simp)), lay _ (lay _ (by simp)), lay _ ?_, lay _ ?_, lay _ ?_, ?_, ?_, ?_, ?_, by simp, by go_grown⟩
    · rw [World.cell?_alloc_at _ _ _ _ (by simp)]; rfl
    · rw [World.cell?_alloc_at _ _ _ _ (by simp)]; rfl
    · rw [World.cell?_alloc_at _ _ _ _ (by simp)]; rfl
    · rw [World.cell?_alloc_at _ _ _ _ (by simp)]; rfl
    · rw [World.cell?_alloc_at _ _ _ _ (by simp)]; rfl
    · exact World.frozen?_alloc_at _ _ _ _ (by simp)
    · exact World.frozen?_alloc_at _ _ _ _ (by simp)
  go_enter Try.func64, Try.ntmps64
  go_upto_region 1 with fail
  generalize (((w.alloc (.cells #[.int .i64 h, .int .i64 u] 25)).alloc (.cells #[.int .i64 m, .int .i64 r, .int .i64 k] 45)).alloc (.cells #[.int .i64 0, .int .i64 0] 25)) = W0 at hA ⊢
  go_cut [10, 11] (fun s10 s11 wx => ∃ bx : Nat, s10 = .pointer (some ⟨bx, 0, none⟩) ∧ s11 = .bool (heldB h u r m s) ∧ Ans h u m r k w wx ∧ Nxt h u w wx bx)
  case first =>
    have c0 := hA.c0
    have c1 := hA.c1
    have c2 := hA.c2
    have c3 := hA.c3
    have kW := hA.hz
    go_region_held3 (fun w' => w'.cell? ⟨w.heap.size, 0, none⟩ = some (.int .i64 h) ∧ w'.cell? ⟨w.heap.size, 1, none⟩ = some (.int .i64 u) ∧ w'.cell? ⟨w.heap.size + 1, 0, none⟩ = some (.int .i64 m) ∧ w'.cell? ⟨w.heap.size + 1, 1, none⟩ = some (.int .i64 r))
      (((try dsimp only); (try go_split_ands); refine ⟨?_, ?_, ?_, ?_⟩ <;> first | assumption | (rw [World.cell?_drew]; assumption) | exact keep hb ‹_› | exact lay _ ‹_› | (refine relay ‹_› ?_; simp; omega) | (refine unset ‹_› ?_; simp; omega) | (refine unset (unset ‹_› ?_) ?_ <;> (simp; omega))))
      ((go_at_call 53; refine (maySend_any _ _ _ _ _ _).mono ?_; rintro e w1 ⟨rfl, hb⟩; obtain ⟨hc, hf, hz⟩ := bcell hb; simp at hz))
    · go_wp2_with fail
      go_meet
      have hA1 : Ans h u m r k w w1 := hA.drew.next hb
      exact ⟨_, rfl, rfl, hA1.next (Below.lay (Below.refl _ _) _), Nxt.of_alloc hA1.hz _⟩
    · go_wp2_with fail
      go_meet
      have hA1 : Ans h u m r k w w1 := (hA.next (Below.lay (Below.refl _ _) _)).drew.next hb
      have hN1 : Nxt 0 0 w w1 W0.heap.size := (Nxt.of_alloc kW _).drew.next hb
      exact ⟨_, rfl, rfl, (hA1.set kW _).set kW _, hN1.set⟩
  case rest =>
    obtain ⟨bx, rfl, rfl, hA, hN⟩ := hcut
    have hx := hN.hx
    have hz := hA.hz
    have hB := hA.hB
    have c0 := hA.c0
    have c1 := hA.c1
    have c2 := hA.c2
    have c3 := hA.c3
    have c4 := hA.c4
    by_cases k0 : k = 0
    · subst k0
      go_wp2_with fail
      refine (takeLease_any _ _ _ _ _ _ _).mono ?_
      rintro e w1 ⟨rfl, hb⟩
      have hA1 := hA.next hb
      have hN1 := hN.next hb
      clear hA hN hb hB hz
      have hz := hA1.hz
      have hB := hA1.hB
      obtain ⟨d0, d1, d2, d3, d4, d5, d6, g5, g6, _, _⟩ := hA1
      obtain ⟨_, d7, d8, g7, g8⟩ := hN1
      clear c0 c1 c2 c3 c4
      go_wp2
      all_goals (refine bodyPost_ret (by simp [results, Try.results64, go_sem, *]; try rfl) rfl ?_)
      all_goals (go_tidy; refine RV.mk ?_ ?_; (· simp_all [answerG, ansX]); (· go_grown))
    by_cases k1 : k = 1
    · subst k1
      go_wp2_with fail
      refine (renewLease_any _ _ _ _ _ _ _).mono ?_
      rintro e w1 ⟨rfl, hb⟩
      have hA1 := hA.next hb
      have hN1 := hN.next hb
      clear hA hN hb hB hz
      have hz := hA1.hz
      have hB := hA1.hB
      obtain ⟨d0, d1, d2, d3, d4, d5, d6, g5, g6, _, _⟩ := hA1
      obtain ⟨_, d7, d8, g7, g8⟩ := hN1
      clear c0 c1 c2 c3 c4
      go_wp2
      all_goals (refine bodyPost_ret (by simp [results, Try.results64, go_sem, *]; try rfl) rfl ?_)
      all_goals (go_tidy; refine RV.mk ?_ ?_; (· simp_all [answerG, ansX]); (· go_grown))
    have k0' : (k == 0) = false := by simpa using k0
    have k1' : (k == 1) = false := by simpa using k1
    by_cases k2 : k = 2
    · subst k2
      obtain ⟨_, _, _, _, _, c5, c6, f5, f6, _, _⟩ := hA
      obtain ⟨_, c7, c8, f7, f8⟩ := hN
      go_wp2
      all_goals (refine bodyPost_ret (by simp [results, Try.results64, go_sem, *]; try rfl) rfl ?_)
      all_goals (go_tidy; refine RV.mk ?_ ?_; (· simp_all [answerG, ansX]); (· go_grown))
    · have k2' : (k == 2) = false := by simpa using k2
      obtain ⟨_, _, _, _, _, c5, c6, f5, f6, _, _⟩ := hA
      obtain ⟨_, c7, c8, f7, f8⟩ := hN
      go_wp2
      all_goals (refine bodyPost_ret (by simp [results, Try.results64, go_sem, *]; try rfl) rfl ?_)
      all_goals (go_tidy; refine RV.mk ?_ ?_; (· simp_all [answerG, ansX]); (· go_grown))
end Go.Proofs.Ytdponfmhpedccaa

/- Two lists of entries put one behind the other by the library. Conditions: lists of at most 2^20. -/
import Derived.Test.YtmdmcjhodhphgaaGreatCopy
import Derived.Lib.AppendZeros
namespace Go.Proofs.YtmdmcjhodhphgaaGreat
open Go.RowKit

theorem own_zeros (w : World) (c : Nat) (T : TypeId) (cs : Array Value) (hc : c ≤ maxLen) (hs : cs.size = c * 4) : Own Ent.cells 4 T (w.drew.alloc (.cells cs T)) w.heap.size (some ⟨w.heap.size, 0, none⟩) c ([] : List Ent) :=
  ⟨by simp, .inr ⟨w.heap.size, c, cs, rfl, Nat.le_refl _, heap_alloc_new w.drew _, Nat.zero_le _, hc, hs, by simp⟩⟩
set_option maxRecDepth 100000 in
set_option maxHeartbeats 1000000 in
theorem GrowE_nil (n : Nat) (w : World) (hn : n ≤ 4194304) : Calls Tryz.prog 70 #[.slice none 0 0, .int .i64 n] w fun e w' => ∃ A c, e = .returned (.slice A 0 c) ∧ Own Ent.cells 4 38 w' w.heap.size A c [] ∧ Below w.heap.size w w' := by
  obtain ⟨i0, hi0, hz0, hz1, hz2⟩ := info_parts Ent.info
  go_enter Tryz.func70, Tryz.ntmps70
  rcases Nat.eq_zero_or_pos n with rfl | hpos
  · clear hi0 hz0 hz1 hz2
    go_wp2
    go_ret
    exact ⟨none, 0, rfl, Own.nil_, Below.refl _ _⟩
  · have h0 : (0 : Int) < n := by omega
    have hge := grownCap_ge w n 0 38
    have hle := grownCap_le_maxLen w n 0 38 (by unfold maxLen; omega)
    have hr := Lib.run_append_nil_zeros (P := Tryz.prog) w 24 3 24 38 i0 _ .i64 .i64 Tryz.underlying24 Tryz.underlying3 hi0 hz0 n hpos (by omega) (by omega) (by rw [hz2]; omega)
    have hO := own_zeros w (grownCap w n 0 38) 38 (Builtin.zeroCells (Value.agg #[.int .i64 0, .int .i64 0, .int .i64 0, .string ⟨#[]⟩]).cells n ++ Builtin.zeroCells (Value.agg #[.int .i64 0, .int .i64 0, .int .i64 0, .string ⟨#[]⟩]).cells (grownCap w n 0 38 - n)) hle (by
      rw [Array.size_append, size_zeroCells, size_zeroCells]
      show n * 4 + (grownCap w n 0 38 - n) * 4 = _
      rw [← Nat.add_mul]; congr 1; omega)
    have hB : Below w.heap.size w (w.drew.alloc (.cells (Builtin.zeroCells (Value.agg #[.int .i64 0, .int .i64 0, .int .i64 0, .string ⟨#[]⟩]).cells n ++ Builtin.zeroCells (Value.agg #[.int .i64 0, .int .i64 0, .int .i64 0, .string ⟨#[]⟩]).cells (grownCap w n 0 38 - n)) 38)) := Below.alloc (Below.refl _ _).drew (Nat.le_refl _) _
    generalize w.drew.alloc (.cells (Builtin.zeroCells (Value.agg #[.int .i64 0, .int .i64 0, .int .i64 0, .string ⟨#[]⟩]).cells n ++ Builtin.zeroCells (Value.agg #[.int .i64 0, .int .i64 0, .int .i64 0, .string ⟨#[]⟩]).cells (grownCap w n 0 38 - n)) 38) = V at hr hO hB
    generalize grownCap w n 0 38 = cap at hr hO hge hle
    go_wp2_with (at_builtin; refine Lib.wpList_append_run _ rfl (.tmp 20) (.tmp 21) _ _ rfl _ _ rfl rfl _ _ hr ?_)
    go_ret
    exact ⟨_, _, rfl, hO, hB⟩
set_option maxRecDepth 100000 in
set_option maxHeartbeats 1000000 in
theorem ConcatE_two (B : Nat) (Aa Ab : Option Addr) (ca cb : Nat) (a b : List Ent) (w : World) (hla : a.length ≤ 1048576) (hlb : b.length ≤ 1048576) (hSa : Ents w 0 w.heap.size Aa a) (hSb : Ents w 0 w.heap.size Ab b) (h0 : w.cell? ⟨B, 0, none⟩ = some (.slice Aa a.length ca)) (h1 : w.cell? ⟨B, 1, none⟩ = some (.slice Ab b.length cb)) :
    Calls Tryz.prog 59 #[.slice (some ⟨B, 0, none⟩) 2 2] w (RO1 Ent.cells 4 38 w (a ++ b)) := by
  obtain ⟨i0, hi0, hz0, hz1, hz2⟩ := info_parts Ent.info
  go_enter Tryz.func59, Tryz.ntmps59
  go_wp2_with fail
  refine wp_loop_rounds 3 ?_
  rw [rounds_succ]
  go_wp2_with fail
  rw [rounds_succ]
  go_wp2_with fail
  rw [rounds_succ]
  go_wp2_with fail
  refine (GrowE_nil (a.length + b.length) w (by omega)).mono ?_
  rintro e w1 ⟨A1, c1, rfl, hO, hb⟩
  have hz := hb.size
  have hSb0 := hSb
  have hBlt := World.block_lt_of_cell? _ _ h0
  have d0 := keep hb h0
  have d1 := keep hb h1
  have hS1 := (hSa.below hb).all
  have hS2 := (hSb.below hb).all
  clear h0 h1 hSa hSb
  go_wp2_with fail
  refine wp_loop_rounds 3 ?_
  rw [rounds_succ]
  go_wp2_with (at_builtin; refine wpList_append_all _ rfl (.tmp 31) (.tmp 32) _ rfl i0 _ _ Tryz.underlying24 hi0 hz0 hz1 hz2 rfl (by omega) Ent.len Ent.one hO hS1 rfl rfl (by unfold maxLen; simp; omega) (by simp; omega) hz ?_; intro A2 c2 w2 L hL hO2 hb2)
  obtain rfl : L = a := hL.out
  have hB2 : Below w.heap.size w w2 := hb.trans hb2
  have hz2' := hB2.size
  have e1 := World.block_lt_of_cell? _ _ d1
  have hBl : B < w.heap.size := hBlt
  have d3 : w2.cell? ⟨B, 1, none⟩ = some (.slice Ab b.length cb) := (hb2.cell (p := ⟨B, 1, none⟩) hBl).trans d1
  have hS3 : Ents w2 0 w2.heap.size Ab b := (hSb0.below hB2).all
  clear hO hS1 hS2 hb hb2 d0 d1 hSb0 hL
  rw [rounds_succ]
  go_wp2_with (at_builtin; refine wpList_append_all _ rfl (.tmp 31) (.tmp 32) _ rfl i0 _ _ Tryz.underlying24 hi0 hz0 hz1 hz2 rfl (by omega) Ent.len Ent.one hO2 hS3 rfl rfl (by unfold maxLen; omega) (by omega) hz2' ?_; intro A3 c3 w3 L2 hL2 hO3 hb3)
  have hB3 : Below w.heap.size w w3 := hB2.trans hb3
  clear hO2 hS3 hb3 d3 hi0 hz0 hz1 hz2
  rw [rounds_succ]
  go_wp2
  go_ret
  obtain rfl : L2 = L ++ b := hL2.out
  exact ⟨A3, c3, rfl, hO3, hB3⟩
end Go.Proofs.YtmdmcjhodhphgaaGreat

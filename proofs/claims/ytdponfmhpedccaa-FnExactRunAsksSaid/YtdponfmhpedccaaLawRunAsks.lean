/- FnExactRunAsks: the program's RunAsks returns what the reference's returns, for all arguments. No conditions. -/
import Derived.Test.YtdponfmhpedccaaRuns2
import Derived.Test.YtdponfmhpedccaaAksArg
import Derived.Test.YtdponfmhpedccaaAksMk
import Derived.Test.YtdponfmhpedccaaRow
namespace Go.Proofs.Ytdponfmhpedccaa.lawRunAsks
open Go.ChangeShapes Go.WideShapes Go.ChangeAt Go.RowKit Go.Joins Go.Proofs.Ytdponfmhpedccaa

set_option maxHeartbeats 8000000 in
theorem walk (h u : Int) (Al : Option Addr) (cl : Nat) (l : List Aks) (hll : l.length ≤ maxLen) (_hml : ∀ x ∈ l, True) (s : Int) (n : Int) (w : World) (hSl : Akss w 0 w.heap.size Al l) : Calls Try.prog 11 #[.agg #[.int .i64 h, .int .i64 u], .slice Al l.length cl, .int .i64 s, .int .i64 n] w fun e w' => e = .returned (.bool true) ∧ Below w.heap.size w w' := by
  go_enter Try.func11, Try.ntmps11
  go_wp2_with fail
  refine (szAskS_any Al cl l.length _ _ hll (by omega) (by omega)).mono ?_
  rintro e w1 ⟨r0, rfl, hr0, hrest, hb⟩
  have hb1 : Below w.heap.size w w1 := Below.on' (by go_grown) hb
  have qp0 : w1.cell? ⟨w.heap.size, 0, none⟩ = some (.int .i64 h) := keep hb (by first | assumption | exact lay _ ‹_› | exact lay _ (lay _ ‹_›) | (simp; done) | exact lay _ (by simp) | (simp [*]; done))
  have qp1 : w1.cell? ⟨w.heap.size, 1, none⟩ = some (.int .i64 u) := keep hb (by first | assumption | exact lay _ ‹_› | exact lay _ (lay _ ‹_›) | (simp; done) | exact lay _ (by simp) | (simp [*]; done))
  have kp : w.heap.size < w1.heap.size := World.block_lt_of_cell? _ _ qp0
  clear hb
  have hB1 : Below w.heap.size w w1 := hb1
  have z1 : w.heap.size + 1 ≤ w1.heap.size := by have hz := World.block_lt_of_cell? _ _ qp0; have hz2 := hb1.size; simp only at hz; omega
  by_cases h0r0 : r0 < 0
  · go_wp2
    go_ret
    exact ⟨rfl, hB1⟩
  have hl'l := hrest (by omega)
  clear hrest
  have hLR1 : (runR h u s n l).length ≤ 1048576 := Nat.le_trans (runR_len h u s n l) hl'l
  go_wp2_with fail
  refine (toLease_any h u _).mono ?_
  rintro e w2 ⟨rfl, hb⟩
  have hb2 : Below w1.heap.size w1 w2 := Below.on' (by go_grown) hb
  replace qp0 : w2.cell? ⟨w.heap.size, 0, none⟩ = some (.int .i64 h) := keep hb (by first | assumption | exact lay _ ‹_› | exact lay _ (lay _ ‹_›) | (simp; done) | exact lay _ (by simp) | (simp [*]; done))
  replace qp1 : w2.cell? ⟨w.heap.size, 1, none⟩ = some (.int .i64 u) := keep hb (by first | assumption | exact lay _ ‹_› | exact lay _ (lay _ ‹_›) | (simp; done) | exact lay _ (by simp) | (simp [*]; done))
  replace kp : w.heap.size < w2.heap.size := World.block_lt_of_cell? _ _ qp0
  clear hb
  have hB2 : Below w.heap.size w w2 := Below.on' hB1 hb2
  have z2 : w1.heap.size + 0 ≤ w2.heap.size := by have hz2 := hb2.size; omega
  go_wp2_with fail
  refine (toAskS_any Al cl l _ hl'l (hSl.below hB2).all).mono ?_
  rintro e w3 ⟨gt0, rfl, hU, hb⟩
  have hb3 : Below w2.heap.size w2 w3 := Below.on' (by go_grown) hb
  replace qp0 : w3.cell? ⟨w.heap.size, 0, none⟩ = some (.int .i64 h) := keep hb (by first | assumption | exact lay _ ‹_› | exact lay _ (lay _ ‹_›) | (simp; done) | exact lay _ (by simp) | (simp [*]; done))
  replace qp1 : w3.cell? ⟨w.heap.size, 1, none⟩ = some (.int .i64 u) := keep hb (by first | assumption | exact lay _ ‹_› | exact lay _ (lay _ ‹_›) | (simp; done) | exact lay _ (by simp) | (simp [*]; done))
  replace kp : w.heap.size < w3.heap.size := World.block_lt_of_cell? _ _ qp0
  clear hb
  have hB3 : Below w.heap.size w w3 := Below.on' hB2 hb3
  have z3 : w2.heap.size + 0 ≤ w3.heap.size := by have hz2 := hb3.size; omega
  have hTt0 := hU.mono (lo' := w2.heap.size) (hi' := w3.heap.size) (by first | exact Nat.le_refl _ | (simp; done) | (simp; omega)) (Nat.le_refl _) (Nat.le_refl _)
  clear hU
  go_wp2_with fail
  refine (RunAsks_spec h u _ _ l s n _ hl'l hTt0.all).mono ?_
  rintro e w4 ⟨Aa1, ca1, rfl, hU1, hcc1, hb⟩
  have hb4 : Below w3.heap.size w3 w4 := Below.on' (by go_grown) hb
  replace qp0 : w4.cell? ⟨w.heap.size, 0, none⟩ = some (.int .i64 h) := keep hb (by first | assumption | exact lay _ ‹_› | exact lay _ (lay _ ‹_›) | (simp; done) | exact lay _ (by simp) | (simp [*]; done))
  replace qp1 : w4.cell? ⟨w.heap.size, 1, none⟩ = some (.int .i64 u) := keep hb (by first | assumption | exact lay _ ‹_› | exact lay _ (lay _ ‹_›) | (simp; done) | exact lay _ (by simp) | (simp [*]; done))
  replace kp : w.heap.size < w4.heap.size := World.block_lt_of_cell? _ _ qp0
  clear hb
  have hB4 : Below w.heap.size w w4 := Below.on' hB3 hb4
  have z4 : w3.heap.size + 0 ≤ w4.heap.size := by have hz2 := hb4.size; omega
  replace hTt0 := hTt0.below hb4
  have hTa1 := hU1.mono (lo' := w3.heap.size) (hi' := w4.heap.size) (by first | exact Nat.le_refl _ | (simp; done) | (simp; omega)) (Nat.le_refl _) (by first | exact Nat.le_refl _ | omega)
  clear hU1 hcc1
  clear hTt0
  go_wp2_with fail
  refine (toAskS_any Al cl l _ hl'l ((hSl.below hB4).alloc _).all).mono ?_
  rintro e w5 ⟨gx0, rfl, hU, hb⟩
  have hb5 : Below w4.heap.size w4 w5 := Below.on' (by go_grown) hb
  replace qp0 : w5.cell? ⟨w.heap.size, 0, none⟩ = some (.int .i64 h) := keep hb (by first | assumption | exact lay _ ‹_› | exact lay _ (lay _ ‹_›) | (simp; done) | exact lay _ (by simp) | (simp [*]; done))
  replace qp1 : w5.cell? ⟨w.heap.size, 1, none⟩ = some (.int .i64 u) := keep hb (by first | assumption | exact lay _ ‹_› | exact lay _ (lay _ ‹_›) | (simp; done) | exact lay _ (by simp) | (simp [*]; done))
  replace kp : w.heap.size < w5.heap.size := World.block_lt_of_cell? _ _ qp0
  have qa00 : w5.cell? ⟨w4.heap.size, 0, none⟩ = some (.int .i64 (runX h u s n l).1) := keep hb (by first | assumption | exact lay _ ‹_› | exact lay _ (lay _ ‹_›) | (simp; done) | exact lay _ (by simp) | (simp [*]; done))
  have qa01 : w5.cell? ⟨w4.heap.size, 1, none⟩ = some (.int .i64 (runX h u s n l).2) := keep hb (by first | assumption | exact lay _ ‹_› | exact lay _ (lay _ ‹_›) | (simp; done) | exact lay _ (by simp) | (simp [*]; done))
  have ka0 : w4.heap.size < w5.heap.size := World.block_lt_of_cell? _ _ qa00
  clear hb
  have hB5 : Below w.heap.size w w5 := Below.on' hB4 hb5
  have z5 : w4.heap.size + 1 ≤ w5.heap.size := by have hz := World.block_lt_of_cell? _ _ qa00; have hz2 := hb5.size; simp only at hz; omega
  replace hTa1 := hTa1.below hb5
  have hTx0 := hU.mono (lo' := w4.heap.size + 1) (hi' := w5.heap.size) (by first | exact Nat.le_refl _ | (simp; done) | (simp; omega)) (Nat.le_refl _) (Nat.le_refl _)
  clear hU
  go_wp2_with fail
  refine (toLease_any h u _).mono ?_
  rintro e w6 ⟨rfl, hb⟩
  have hb6 : Below w5.heap.size w5 w6 := Below.on' (by go_grown) hb
  replace qp0 : w6.cell? ⟨w.heap.size, 0, none⟩ = some (.int .i64 h) := keep hb (by first | assumption | exact lay _ ‹_› | exact lay _ (lay _ ‹_›) | (simp; done) | exact lay _ (by simp) | (simp [*]; done))
  replace qp1 : w6.cell? ⟨w.heap.size, 1, none⟩ = some (.int .i64 u) := keep hb (by first | assumption | exact lay _ ‹_› | exact lay _ (lay _ ‹_›) | (simp; done) | exact lay _ (by simp) | (simp [*]; done))
  replace kp : w.heap.size < w6.heap.size := World.block_lt_of_cell? _ _ qp0
  replace qa00 : w6.cell? ⟨w4.heap.size, 0, none⟩ = some (.int .i64 (runX h u s n l).1) := keep hb (by first | assumption | exact lay _ ‹_› | exact lay _ (lay _ ‹_›) | (simp; done) | exact lay _ (by simp) | (simp [*]; done))
  replace qa01 : w6.cell? ⟨w4.heap.size, 1, none⟩ = some (.int .i64 (runX h u s n l).2) := keep hb (by first | assumption | exact lay _ ‹_› | exact lay _ (lay _ ‹_›) | (simp; done) | exact lay _ (by simp) | (simp [*]; done))
  replace ka0 : w4.heap.size < w6.heap.size := World.block_lt_of_cell? _ _ qa00
  clear hb
  have hB6 : Below w.heap.size w w6 := Below.on' hB5 hb6
  have z6 : w5.heap.size + 0 ≤ w6.heap.size := by have hz2 := hb6.size; omega
  replace hTa1 := hTa1.below hb6
  replace hTx0 := hTx0.below hb6
  go_wp2_with fail
  refine (RunAsks_impl h u _ _ l s n _ hl'l hTx0.all).mono ?_
  rintro e w7 ⟨Ab1, cb1, rfl, hU1, hcc1, hb⟩
  have hb7 : Below w6.heap.size w6 w7 := Below.on' (by go_grown) hb
  replace qp0 : w7.cell? ⟨w.heap.size, 0, none⟩ = some (.int .i64 h) := keep hb (by first | assumption | exact lay _ ‹_› | exact lay _ (lay _ ‹_›) | (simp; done) | exact lay _ (by simp) | (simp [*]; done))
  replace qp1 : w7.cell? ⟨w.heap.size, 1, none⟩ = some (.int .i64 u) := keep hb (by first | assumption | exact lay _ ‹_› | exact lay _ (lay _ ‹_›) | (simp; done) | exact lay _ (by simp) | (simp [*]; done))
  replace kp : w.heap.size < w7.heap.size := World.block_lt_of_cell? _ _ qp0
  replace qa00 : w7.cell? ⟨w4.heap.size, 0, none⟩ = some (.int .i64 (runX h u s n l).1) := keep hb (by first | assumption | exact lay _ ‹_› | exact lay _ (lay _ ‹_›) | (simp; done) | exact lay _ (by simp) | (simp [*]; done))
  replace qa01 : w7.cell? ⟨w4.heap.size, 1, none⟩ = some (.int .i64 (runX h u s n l).2) := keep hb (by first | assumption | exact lay _ ‹_› | exact lay _ (lay _ ‹_›) | (simp; done) | exact lay _ (by simp) | (simp [*]; done))
  replace ka0 : w4.heap.size < w7.heap.size := World.block_lt_of_cell? _ _ qa00
  clear hb
  have hB7 : Below w.heap.size w w7 := Below.on' hB6 hb7
  have z7 : w6.heap.size + 0 ≤ w7.heap.size := by have hz2 := hb7.size; omega
  replace hTa1 := hTa1.below hb7
  replace hTx0 := hTx0.below hb7
  have hTb1 := hU1.mono (lo' := w6.heap.size) (hi' := w7.heap.size) (by first | exact Nat.le_refl _ | (simp; done) | (simp; omega)) (Nat.le_refl _) (by first | exact Nat.le_refl _ | omega)
  clear hU1 hcc1
  go_wp2_with fail
  refine (eqLease_same _ _ _).mono ?_
  rintro e w8 ⟨rfl, hb⟩
  have hb8 : Below w7.heap.size w7 w8 := Below.on' (by go_grown) hb
  replace qp0 : w8.cell? ⟨w.heap.size, 0, none⟩ = some (.int .i64 h) := keep hb (by first | assumption | exact lay _ ‹_› | exact lay _ (lay _ ‹_›) | (simp; done) | exact lay _ (by simp) | (simp [*]; done))
  replace qp1 : w8.cell? ⟨w.heap.size, 1, none⟩ = some (.int .i64 u) := keep hb (by first | assumption | exact lay _ ‹_› | exact lay _ (lay _ ‹_›) | (simp; done) | exact lay _ (by simp) | (simp [*]; done))
  replace kp : w.heap.size < w8.heap.size := World.block_lt_of_cell? _ _ qp0
  replace qa00 : w8.cell? ⟨w4.heap.size, 0, none⟩ = some (.int .i64 (runX h u s n l).1) := keep hb (by first | assumption | exact lay _ ‹_› | exact lay _ (lay _ ‹_›) | (simp; done) | exact lay _ (by simp) | (simp [*]; done))
  replace qa01 : w8.cell? ⟨w4.heap.size, 1, none⟩ = some (.int .i64 (runX h u s n l).2) := keep hb (by first | assumption | exact lay _ ‹_› | exact lay _ (lay _ ‹_›) | (simp; done) | exact lay _ (by simp) | (simp [*]; done))
  replace ka0 : w4.heap.size < w8.heap.size := World.block_lt_of_cell? _ _ qa00
  have qb00 : w8.cell? ⟨w7.heap.size, 0, none⟩ = some (.int .i64 (runX h u s n l).1) := keep hb (by first | assumption | exact lay _ ‹_› | exact lay _ (lay _ ‹_›) | (simp; done) | exact lay _ (by simp) | (simp [*]; done))
  have qb01 : w8.cell? ⟨w7.heap.size, 1, none⟩ = some (.int .i64 (runX h u s n l).2) := keep hb (by first | assumption | exact lay _ ‹_› | exact lay _ (lay _ ‹_›) | (simp; done) | exact lay _ (by simp) | (simp [*]; done))
  have kb0 : w7.heap.size < w8.heap.size := World.block_lt_of_cell? _ _ qb00
  clear hb
  have hB8 : Below w.heap.size w w8 := Below.on' hB7 hb8
  have z8 : w7.heap.size + 1 ≤ w8.heap.size := by have hz := World.block_lt_of_cell? _ _ qb00; have hz2 := hb8.size; simp only at hz; omega
  replace hTa1 := hTa1.below hb8
  replace hTx0 := hTx0.below hb8
  replace hTb1 := hTb1.below hb8
  go_wp2_with fail
  refine (eqBoolS_same _ _ _ _ _ _ _ _ _ _ hLR1 hTb1 hTa1).mono ?_
  rintro e w9 ⟨rfl, hb⟩
  have hb9 : Below w8.heap.size w8 w9 := Below.on' (by go_grown) hb
  replace qp0 : w9.cell? ⟨w.heap.size, 0, none⟩ = some (.int .i64 h) := keep hb (by first | assumption | exact lay _ ‹_› | exact lay _ (lay _ ‹_›) | (simp; done) | exact lay _ (by simp) | (simp [*]; done))
  replace qp1 : w9.cell? ⟨w.heap.size, 1, none⟩ = some (.int .i64 u) := keep hb (by first | assumption | exact lay _ ‹_› | exact lay _ (lay _ ‹_›) | (simp; done) | exact lay _ (by simp) | (simp [*]; done))
  replace kp : w.heap.size < w9.heap.size := World.block_lt_of_cell? _ _ qp0
  replace qa00 : w9.cell? ⟨w4.heap.size, 0, none⟩ = some (.int .i64 (runX h u s n l).1) := keep hb (by first | assumption | exact lay _ ‹_› | exact lay _ (lay _ ‹_›) | (simp; done) | exact lay _ (by simp) | (simp [*]; done))
  replace qa01 : w9.cell? ⟨w4.heap.size, 1, none⟩ = some (.int .i64 (runX h u s n l).2) := keep hb (by first | assumption | exact lay _ ‹_› | exact lay _ (lay _ ‹_›) | (simp; done) | exact lay _ (by simp) | (simp [*]; done))
  replace ka0 : w4.heap.size < w9.heap.size := World.block_lt_of_cell? _ _ qa00
  replace qb00 : w9.cell? ⟨w7.heap.size, 0, none⟩ = some (.int .i64 (runX h u s n l).1) := keep hb (by first | assumption | exact lay _ ‹_› | exact lay _ (lay _ ‹_›) | (simp; done) | exact lay _ (by simp) | (simp [*]; done))
  replace qb01 : w9.cell? ⟨w7.heap.size, 1, none⟩ = some (.int .i64 (runX h u s n l).2) := keep hb (by first | assumption | exact lay _ ‹_› | exact lay _ (lay _ ‹_›) | (simp; done) | exact lay _ (by simp) | (simp [*]; done))
  replace kb0 : w7.heap.size < w9.heap.size := World.block_lt_of_cell? _ _ qb00
  clear hb
  have hB9 : Below w.heap.size w w9 := Below.on' hB8 hb9
  have z9 : w8.heap.size + 0 ≤ w9.heap.size := by have hz2 := hb9.size; omega
  replace hTa1 := hTa1.below hb9
  replace hTx0 := hTx0.below hb9
  replace hTb1 := hTb1.below hb9
  go_wp2_with fail
  refine (toAskS_any Al cl l _ hl'l (hSl.below hB9).all).mono ?_
  rintro e w10 ⟨gy, rfl, hU, hb⟩
  have hb10 : Below w9.heap.size w9 w10 := Below.on' (by go_grown) hb
  replace qp0 : w10.cell? ⟨w.heap.size, 0, none⟩ = some (.int .i64 h) := keep hb (by first | assumption | exact lay _ ‹_› | exact lay _ (lay _ ‹_›) | (simp; done) | exact lay _ (by simp) | (simp [*]; done))
  replace qp1 : w10.cell? ⟨w.heap.size, 1, none⟩ = some (.int .i64 u) := keep hb (by first | assumption | exact lay _ ‹_› | exact lay _ (lay _ ‹_›) | (simp; done) | exact lay _ (by simp) | (simp [*]; done))
  replace kp : w.heap.size < w10.heap.size := World.block_lt_of_cell? _ _ qp0
  replace qa00 : w10.cell? ⟨w4.heap.size, 0, none⟩ = some (.int .i64 (runX h u s n l).1) := keep hb (by first | assumption | exact lay _ ‹_› | exact lay _ (lay _ ‹_›) | (simp; done) | exact lay _ (by simp) | (simp [*]; done))
  replace qa01 : w10.cell? ⟨w4.heap.size, 1, none⟩ = some (.int .i64 (runX h u s n l).2) := keep hb (by first | assumption | exact lay _ ‹_› | exact lay _ (lay _ ‹_›) | (simp; done) | exact lay _ (by simp) | (simp [*]; done))
  replace ka0 : w4.heap.size < w10.heap.size := World.block_lt_of_cell? _ _ qa00
  replace qb00 : w10.cell? ⟨w7.heap.size, 0, none⟩ = some (.int .i64 (runX h u s n l).1) := keep hb (by first | assumption | exact lay _ ‹_› | exact lay _ (lay _ ‹_›) | (simp; done) | exact lay _ (by simp) | (simp [*]; done))
  replace qb01 : w10.cell? ⟨w7.heap.size, 1, none⟩ = some (.int .i64 (runX h u s n l).2) := keep hb (by first | assumption | exact lay _ ‹_› | exact lay _ (lay _ ‹_›) | (simp; done) | exact lay _ (by simp) | (simp [*]; done))
  replace kb0 : w7.heap.size < w10.heap.size := World.block_lt_of_cell? _ _ qb00
  clear hb
  have hB10 : Below w.heap.size w w10 := Below.on' hB9 hb10
  have z10 : w9.heap.size + 0 ≤ w10.heap.size := by have hz2 := hb10.size; omega
  replace hTa1 := hTa1.below hb10
  replace hTx0 := hTx0.below hb10
  replace hTb1 := hTb1.below hb10
  have hTy := hU.mono (lo' := w9.heap.size) (hi' := w10.heap.size) (by first | exact Nat.le_refl _ | (simp; done) | (simp; omega)) (Nat.le_refl _) (Nat.le_refl _)
  clear hU
  go_wp2_with fail
  refine (eqAskS_same _ _ _ _ _ _ _ _ _ _ hl'l hTx0 hTy).mono ?_
  rintro e w11 ⟨rfl, hb⟩
  have hb11 : Below w10.heap.size w10 w11 := Below.on' (by go_grown) hb
  replace qp0 : w11.cell? ⟨w.heap.size, 0, none⟩ = some (.int .i64 h) := keep hb (by first | assumption | exact lay _ ‹_› | exact lay _ (lay _ ‹_›) | (simp; done) | exact lay _ (by simp) | (simp [*]; done))
  replace qp1 : w11.cell? ⟨w.heap.size, 1, none⟩ = some (.int .i64 u) := keep hb (by first | assumption | exact lay _ ‹_› | exact lay _ (lay _ ‹_›) | (simp; done) | exact lay _ (by simp) | (simp [*]; done))
  replace kp : w.heap.size < w11.heap.size := World.block_lt_of_cell? _ _ qp0
  replace qa00 : w11.cell? ⟨w4.heap.size, 0, none⟩ = some (.int .i64 (runX h u s n l).1) := keep hb (by first | assumption | exact lay _ ‹_› | exact lay _ (lay _ ‹_›) | (simp; done) | exact lay _ (by simp) | (simp [*]; done))
  replace qa01 : w11.cell? ⟨w4.heap.size, 1, none⟩ = some (.int .i64 (runX h u s n l).2) := keep hb (by first | assumption | exact lay _ ‹_› | exact lay _ (lay _ ‹_›) | (simp; done) | exact lay _ (by simp) | (simp [*]; done))
  replace ka0 : w4.heap.size < w11.heap.size := World.block_lt_of_cell? _ _ qa00
  replace qb00 : w11.cell? ⟨w7.heap.size, 0, none⟩ = some (.int .i64 (runX h u s n l).1) := keep hb (by first | assumption | exact lay _ ‹_› | exact lay _ (lay _ ‹_›) | (simp; done) | exact lay _ (by simp) | (simp [*]; done))
  replace qb01 : w11.cell? ⟨w7.heap.size, 1, none⟩ = some (.int .i64 (runX h u s n l).2) := keep hb (by first | assumption | exact lay _ ‹_› | exact lay _ (lay _ ‹_›) | (simp; done) | exact lay _ (by simp) | (simp [*]; done))
  replace kb0 : w7.heap.size < w11.heap.size := World.block_lt_of_cell? _ _ qb00
  clear hb
  have hB11 : Below w.heap.size w w11 := Below.on' hB10 hb11
  have z11 : w10.heap.size + 0 ≤ w11.heap.size := by have hz2 := hb11.size; omega
  replace hTa1 := hTa1.below hb11
  replace hTx0 := hTx0.below hb11
  replace hTb1 := hTb1.below hb11
  replace hTy := hTy.below hb11
  clear hTy
  go_wp2_with fail
  refine (markAskS_any _ _ _ _ _ _ _ hl'l (by omega) (by omega) hTx0).mono ?_
  rintro e w12 ⟨rfl, hM, hF⟩
  replace qp0 := (World.cell?_of_block (hF.block _ (World.block_lt_of_cell? _ _ qp0) (by simp only; omega))).trans qp0
  replace qp1 := (World.cell?_of_block (hF.block _ (World.block_lt_of_cell? _ _ qp1) (by simp only; omega))).trans qp1
  replace kp : w.heap.size < w12.heap.size := World.block_lt_of_cell? _ _ qp0
  replace qa00 := (World.cell?_of_block (hF.block _ (World.block_lt_of_cell? _ _ qa00) (by simp only; omega))).trans qa00
  replace qa01 := (World.cell?_of_block (hF.block _ (World.block_lt_of_cell? _ _ qa01) (by simp only; omega))).trans qa01
  replace ka0 : w4.heap.size < w12.heap.size := World.block_lt_of_cell? _ _ qa00
  replace qb00 := (World.cell?_of_block (hF.block _ (World.block_lt_of_cell? _ _ qb00) (by simp only; omega))).trans qb00
  replace qb01 := (World.cell?_of_block (hF.block _ (World.block_lt_of_cell? _ _ qb01) (by simp only; omega))).trans qb01
  replace kb0 : w7.heap.size < w12.heap.size := World.block_lt_of_cell? _ _ qb00
  have hB12 : Below w.heap.size w w12 := hB11.trans (hF.below (by omega) (by omega))
  have z12 : w11.heap.size ≤ w12.heap.size := hF.size
  replace hTa1 := hTa1.fr hF (by omega)
  replace hTb1 := hTb1.fr hF (by omega)
  clear hF
  replace hTx0 := hM
  clear hM
  clear hTx0
  go_wp2_with fail
  refine (eqLease_same _ _ _).mono ?_
  rintro e w13 ⟨rfl, hb⟩
  have hb13 : Below w12.heap.size w12 w13 := Below.on' (by go_grown) hb
  replace qp0 : w13.cell? ⟨w.heap.size, 0, none⟩ = some (.int .i64 h) := keep hb (by first | assumption | exact lay _ ‹_› | exact lay _ (lay _ ‹_›) | (simp; done) | exact lay _ (by simp) | (simp [*]; done))
  replace qp1 : w13.cell? ⟨w.heap.size, 1, none⟩ = some (.int .i64 u) := keep hb (by first | assumption | exact lay _ ‹_› | exact lay _ (lay _ ‹_›) | (simp; done) | exact lay _ (by simp) | (simp [*]; done))
  replace kp : w.heap.size < w13.heap.size := World.block_lt_of_cell? _ _ qp0
  replace qa00 : w13.cell? ⟨w4.heap.size, 0, none⟩ = some (.int .i64 (runX h u s n l).1) := keep hb (by first | assumption | exact lay _ ‹_› | exact lay _ (lay _ ‹_›) | (simp; done) | exact lay _ (by simp) | (simp [*]; done))
  replace qa01 : w13.cell? ⟨w4.heap.size, 1, none⟩ = some (.int .i64 (runX h u s n l).2) := keep hb (by first | assumption | exact lay _ ‹_› | exact lay _ (lay _ ‹_›) | (simp; done) | exact lay _ (by simp) | (simp [*]; done))
  replace ka0 : w4.heap.size < w13.heap.size := World.block_lt_of_cell? _ _ qa00
  replace qb00 : w13.cell? ⟨w7.heap.size, 0, none⟩ = some (.int .i64 (runX h u s n l).1) := keep hb (by first | assumption | exact lay _ ‹_› | exact lay _ (lay _ ‹_›) | (simp; done) | exact lay _ (by simp) | (simp [*]; done))
  replace qb01 : w13.cell? ⟨w7.heap.size, 1, none⟩ = some (.int .i64 (runX h u s n l).2) := keep hb (by first | assumption | exact lay _ ‹_› | exact lay _ (lay _ ‹_›) | (simp; done) | exact lay _ (by simp) | (simp [*]; done))
  replace kb0 : w7.heap.size < w13.heap.size := World.block_lt_of_cell? _ _ qb00
  clear hb
  have hB13 : Below w.heap.size w w13 := Below.on' hB12 hb13
  have z13 : w12.heap.size + 0 ≤ w13.heap.size := by have hz2 := hb13.size; omega
  replace hTa1 := hTa1.below hb13
  replace hTb1 := hTb1.below hb13
  go_wp2_with fail
  refine (eqBoolS_same _ _ _ _ _ _ _ _ _ _ hLR1 hTb1 hTa1).mono ?_
  rintro e w14 ⟨rfl, hb⟩
  have hb14 : Below w13.heap.size w13 w14 := Below.on' (by go_grown) hb
  replace qp0 : w14.cell? ⟨w.heap.size, 0, none⟩ = some (.int .i64 h) := keep hb (by first | assumption | exact lay _ ‹_› | exact lay _ (lay _ ‹_›) | (simp; done) | exact lay _ (by simp) | (simp [*]; done))
  replace qp1 : w14.cell? ⟨w.heap.size, 1, none⟩ = some (.int .i64 u) := keep hb (by first | assumption | exact lay _ ‹_› | exact lay _ (lay _ ‹_›) | (simp; done) | exact lay _ (by simp) | (simp [*]; done))
  replace kp : w.heap.size < w14.heap.size := World.block_lt_of_cell? _ _ qp0
  replace qa00 : w14.cell? ⟨w4.heap.size, 0, none⟩ = some (.int .i64 (runX h u s n l).1) := keep hb (by first | assumption | exact lay _ ‹_› | exact lay _ (lay _ ‹_›) | (simp; done) | exact lay _ (by simp) | (simp [*]; done))
  replace qa01 : w14.cell? ⟨w4.heap.size, 1, none⟩ = some (.int .i64 (runX h u s n l).2) := keep hb (by first | assumption | exact lay _ ‹_› | exact lay _ (lay _ ‹_›) | (simp; done) | exact lay _ (by simp) | (simp [*]; done))
  replace ka0 : w4.heap.size < w14.heap.size := World.block_lt_of_cell? _ _ qa00
  replace qb00 : w14.cell? ⟨w7.heap.size, 0, none⟩ = some (.int .i64 (runX h u s n l).1) := keep hb (by first | assumption | exact lay _ ‹_› | exact lay _ (lay _ ‹_›) | (simp; done) | exact lay _ (by simp) | (simp [*]; done))
  replace qb01 : w14.cell? ⟨w7.heap.size, 1, none⟩ = some (.int .i64 (runX h u s n l).2) := keep hb (by first | assumption | exact lay _ ‹_› | exact lay _ (lay _ ‹_›) | (simp; done) | exact lay _ (by simp) | (simp [*]; done))
  replace kb0 : w7.heap.size < w14.heap.size := World.block_lt_of_cell? _ _ qb00
  clear hb
  have hB14 : Below w.heap.size w w14 := Below.on' hB13 hb14
  have z14 : w13.heap.size + 0 ≤ w14.heap.size := by have hz2 := hb14.size; omega
  replace hTa1 := hTa1.below hb14
  replace hTb1 := hTb1.below hb14
  go_wp2_with fail
  refine (markBoolS_any _ _ _ _ _ _ _ hLR1 (by omega) (by omega) hTb1).mono ?_
  rintro e w15 ⟨rfl, hM, hF⟩
  replace qp0 := (World.cell?_of_block (hF.block _ (World.block_lt_of_cell? _ _ qp0) (by simp only; omega))).trans qp0
  replace qp1 := (World.cell?_of_block (hF.block _ (World.block_lt_of_cell? _ _ qp1) (by simp only; omega))).trans qp1
  replace kp : w.heap.size < w15.heap.size := World.block_lt_of_cell? _ _ qp0
  replace qa00 := (World.cell?_of_block (hF.block _ (World.block_lt_of_cell? _ _ qa00) (by simp only; omega))).trans qa00
  replace qa01 := (World.cell?_of_block (hF.block _ (World.block_lt_of_cell? _ _ qa01) (by simp only; omega))).trans qa01
  replace ka0 : w4.heap.size < w15.heap.size := World.block_lt_of_cell? _ _ qa00
  replace qb00 := (World.cell?_of_block (hF.block _ (World.block_lt_of_cell? _ _ qb00) (by simp only; omega))).trans qb00
  replace qb01 := (World.cell?_of_block (hF.block _ (World.block_lt_of_cell? _ _ qb01) (by simp only; omega))).trans qb01
  replace kb0 : w7.heap.size < w15.heap.size := World.block_lt_of_cell? _ _ qb00
  have hB15 : Below w.heap.size w w15 := hB14.trans (hF.below (by omega) (by omega))
  have z15 : w14.heap.size ≤ w15.heap.size := hF.size
  replace hTa1 := hTa1.fr hF (by omega)
  clear hF
  replace hTb1 := hM
  clear hM
  go_wp2_with fail
  refine (heldBoolS_any _ _ _ _ _ _ _ hLR1 (by omega) (by omega) hTb1).mono ?_
  rintro e w16 ⟨rfl, hb⟩
  have hb16 : Below w15.heap.size w15 w16 := Below.on' (by go_grown) hb
  replace qp0 : w16.cell? ⟨w.heap.size, 0, none⟩ = some (.int .i64 h) := keep hb (by first | assumption | exact lay _ ‹_› | exact lay _ (lay _ ‹_›) | (simp; done) | exact lay _ (by simp) | (simp [*]; done))
  replace qp1 : w16.cell? ⟨w.heap.size, 1, none⟩ = some (.int .i64 u) := keep hb (by first | assumption | exact lay _ ‹_› | exact lay _ (lay _ ‹_›) | (simp; done) | exact lay _ (by simp) | (simp [*]; done))
  replace kp : w.heap.size < w16.heap.size := World.block_lt_of_cell? _ _ qp0
  replace qa00 : w16.cell? ⟨w4.heap.size, 0, none⟩ = some (.int .i64 (runX h u s n l).1) := keep hb (by first | assumption | exact lay _ ‹_› | exact lay _ (lay _ ‹_›) | (simp; done) | exact lay _ (by simp) | (simp [*]; done))
  replace qa01 : w16.cell? ⟨w4.heap.size, 1, none⟩ = some (.int .i64 (runX h u s n l).2) := keep hb (by first | assumption | exact lay _ ‹_› | exact lay _ (lay _ ‹_›) | (simp; done) | exact lay _ (by simp) | (simp [*]; done))
  replace ka0 : w4.heap.size < w16.heap.size := World.block_lt_of_cell? _ _ qa00
  replace qb00 : w16.cell? ⟨w7.heap.size, 0, none⟩ = some (.int .i64 (runX h u s n l).1) := keep hb (by first | assumption | exact lay _ ‹_› | exact lay _ (lay _ ‹_›) | (simp; done) | exact lay _ (by simp) | (simp [*]; done))
  replace qb01 : w16.cell? ⟨w7.heap.size, 1, none⟩ = some (.int .i64 (runX h u s n l).2) := keep hb (by first | assumption | exact lay _ ‹_› | exact lay _ (lay _ ‹_›) | (simp; done) | exact lay _ (by simp) | (simp [*]; done))
  replace kb0 : w7.heap.size < w16.heap.size := World.block_lt_of_cell? _ _ qb00
  clear hb
  have hB16 : Below w.heap.size w w16 := Below.on' hB15 hb16
  have z16 : w15.heap.size + 0 ≤ w16.heap.size := by have hz2 := hb16.size; omega
  replace hTa1 := hTa1.below hb16
  replace hTb1 := hTb1.below hb16
  go_wp2_with fail
  refine (toLease_any h u _).mono ?_
  rintro e w17 ⟨rfl, hb⟩
  have hb17 : Below w16.heap.size w16 w17 := Below.on' (by go_grown) hb
  replace qp0 : w17.cell? ⟨w.heap.size, 0, none⟩ = some (.int .i64 h) := keep hb (by first | assumption | exact lay _ ‹_› | exact lay _ (lay _ ‹_›) | (simp; done) | exact lay _ (by simp) | (simp [*]; done))
  replace qp1 : w17.cell? ⟨w.heap.size, 1, none⟩ = some (.int .i64 u) := keep hb (by first | assumption | exact lay _ ‹_› | exact lay _ (lay _ ‹_›) | (simp; done) | exact lay _ (by simp) | (simp [*]; done))
  replace kp : w.heap.size < w17.heap.size := World.block_lt_of_cell? _ _ qp0
  replace qa00 : w17.cell? ⟨w4.heap.size, 0, none⟩ = some (.int .i64 (runX h u s n l).1) := keep hb (by first | assumption | exact lay _ ‹_› | exact lay _ (lay _ ‹_›) | (simp; done) | exact lay _ (by simp) | (simp [*]; done))
  replace qa01 : w17.cell? ⟨w4.heap.size, 1, none⟩ = some (.int .i64 (runX h u s n l).2) := keep hb (by first | assumption | exact lay _ ‹_› | exact lay _ (lay _ ‹_›) | (simp; done) | exact lay _ (by simp) | (simp [*]; done))
  replace ka0 : w4.heap.size < w17.heap.size := World.block_lt_of_cell? _ _ qa00
  replace qb00 : w17.cell? ⟨w7.heap.size, 0, none⟩ = some (.int .i64 (runX h u s n l).1) := keep hb (by first | assumption | exact lay _ ‹_› | exact lay _ (lay _ ‹_›) | (simp; done) | exact lay _ (by simp) | (simp [*]; done))
  replace qb01 : w17.cell? ⟨w7.heap.size, 1, none⟩ = some (.int .i64 (runX h u s n l).2) := keep hb (by first | assumption | exact lay _ ‹_› | exact lay _ (lay _ ‹_›) | (simp; done) | exact lay _ (by simp) | (simp [*]; done))
  replace kb0 : w7.heap.size < w17.heap.size := World.block_lt_of_cell? _ _ qb00
  clear hb
  have hB17 : Below w.heap.size w w17 := Below.on' hB16 hb17
  have z17 : w16.heap.size + 0 ≤ w17.heap.size := by have hz2 := hb17.size; omega
  replace hTa1 := hTa1.below hb17
  replace hTb1 := hTb1.below hb17
  go_wp2_with fail
  refine (toAskS_any Al cl l _ hl'l (hSl.below hB17).all).mono ?_
  rintro e w18 ⟨gt0, rfl, hU, hb⟩
  have hb18 : Below w17.heap.size w17 w18 := Below.on' (by go_grown) hb
  replace qp0 : w18.cell? ⟨w.heap.size, 0, none⟩ = some (.int .i64 h) := keep hb (by first | assumption | exact lay _ ‹_› | exact lay _ (lay _ ‹_›) | (simp; done) | exact lay _ (by simp) | (simp [*]; done))
  replace qp1 : w18.cell? ⟨w.heap.size, 1, none⟩ = some (.int .i64 u) := keep hb (by first | assumption | exact lay _ ‹_› | exact lay _ (lay _ ‹_›) | (simp; done) | exact lay _ (by simp) | (simp [*]; done))
  replace kp : w.heap.size < w18.heap.size := World.block_lt_of_cell? _ _ qp0
  replace qa00 : w18.cell? ⟨w4.heap.size, 0, none⟩ = some (.int .i64 (runX h u s n l).1) := keep hb (by first | assumption | exact lay _ ‹_› | exact lay _ (lay _ ‹_›) | (simp; done) | exact lay _ (by simp) | (simp [*]; done))
  replace qa01 : w18.cell? ⟨w4.heap.size, 1, none⟩ = some (.int .i64 (runX h u s n l).2) := keep hb (by first | assumption | exact lay _ ‹_› | exact lay _ (lay _ ‹_›) | (simp; done) | exact lay _ (by simp) | (simp [*]; done))
  replace ka0 : w4.heap.size < w18.heap.size := World.block_lt_of_cell? _ _ qa00
  replace qb00 : w18.cell? ⟨w7.heap.size, 0, none⟩ = some (.int .i64 (runX h u s n l).1) := keep hb (by first | assumption | exact lay _ ‹_› | exact lay _ (lay _ ‹_›) | (simp; done) | exact lay _ (by simp) | (simp [*]; done))
  replace qb01 : w18.cell? ⟨w7.heap.size, 1, none⟩ = some (.int .i64 (runX h u s n l).2) := keep hb (by first | assumption | exact lay _ ‹_› | exact lay _ (lay _ ‹_›) | (simp; done) | exact lay _ (by simp) | (simp [*]; done))
  replace kb0 : w7.heap.size < w18.heap.size := World.block_lt_of_cell? _ _ qb00
  clear hb
  have hB18 : Below w.heap.size w w18 := Below.on' hB17 hb18
  have z18 : w17.heap.size + 0 ≤ w18.heap.size := by have hz2 := hb18.size; omega
  replace hTa1 := hTa1.below hb18
  replace hTb1 := hTb1.below hb18
  have hTt0 := hU.mono (lo' := w17.heap.size) (hi' := w18.heap.size) (by first | exact Nat.le_refl _ | (simp; done) | (simp; omega)) (Nat.le_refl _) (Nat.le_refl _)
  clear hU
  go_wp2_with fail
  refine (RunAsks_impl h u _ _ l s n _ hl'l hTt0.all).mono ?_
  rintro e w19 ⟨Ah1, ch1, rfl, hU1, hcc1, hb⟩
  have hb19 : Below w18.heap.size w18 w19 := Below.on' (by go_grown) hb
  replace qp0 : w19.cell? ⟨w.heap.size, 0, none⟩ = some (.int .i64 h) := keep hb (by first | assumption | exact lay _ ‹_› | exact lay _ (lay _ ‹_›) | (simp; done) | exact lay _ (by simp) | (simp [*]; done))
  replace qp1 : w19.cell? ⟨w.heap.size, 1, none⟩ = some (.int .i64 u) := keep hb (by first | assumption | exact lay _ ‹_› | exact lay _ (lay _ ‹_›) | (simp; done) | exact lay _ (by simp) | (simp [*]; done))
  replace kp : w.heap.size < w19.heap.size := World.block_lt_of_cell? _ _ qp0
  replace qa00 : w19.cell? ⟨w4.heap.size, 0, none⟩ = some (.int .i64 (runX h u s n l).1) := keep hb (by first | assumption | exact lay _ ‹_› | exact lay _ (lay _ ‹_›) | (simp; done) | exact lay _ (by simp) | (simp [*]; done))
  replace qa01 : w19.cell? ⟨w4.heap.size, 1, none⟩ = some (.int .i64 (runX h u s n l).2) := keep hb (by first | assumption | exact lay _ ‹_› | exact lay _ (lay _ ‹_›) | (simp; done) | exact lay _ (by simp) | (simp [*]; done))
  replace ka0 : w4.heap.size < w19.heap.size := World.block_lt_of_cell? _ _ qa00
  replace qb00 : w19.cell? ⟨w7.heap.size, 0, none⟩ = some (.int .i64 (runX h u s n l).1) := keep hb (by first | assumption | exact lay _ ‹_› | exact lay _ (lay _ ‹_›) | (simp; done) | exact lay _ (by simp) | (simp [*]; done))
  replace qb01 : w19.cell? ⟨w7.heap.size, 1, none⟩ = some (.int .i64 (runX h u s n l).2) := keep hb (by first | assumption | exact lay _ ‹_› | exact lay _ (lay _ ‹_›) | (simp; done) | exact lay _ (by simp) | (simp [*]; done))
  replace kb0 : w7.heap.size < w19.heap.size := World.block_lt_of_cell? _ _ qb00
  clear hb
  have hB19 : Below w.heap.size w w19 := Below.on' hB18 hb19
  have z19 : w18.heap.size + 0 ≤ w19.heap.size := by have hz2 := hb19.size; omega
  replace hTa1 := hTa1.below hb19
  replace hTb1 := hTb1.below hb19
  replace hTt0 := hTt0.below hb19
  have hTh1 := hU1.mono (lo' := w18.heap.size) (hi' := w19.heap.size) (by first | exact Nat.le_refl _ | (simp; done) | (simp; omega)) (Nat.le_refl _) (by first | exact Nat.le_refl _ | omega)
  clear hU1 hcc1
  clear hTt0
  go_wp2_with fail
  refine (eqLease_same _ _ _).mono ?_
  rintro e w20 ⟨rfl, hb⟩
  have hb20 : Below w19.heap.size w19 w20 := Below.on' (by go_grown) hb
  replace qp0 : w20.cell? ⟨w.heap.size, 0, none⟩ = some (.int .i64 h) := keep hb (by first | assumption | exact lay _ ‹_› | exact lay _ (lay _ ‹_›) | (simp; done) | exact lay _ (by simp) | (simp [*]; done))
  replace qp1 : w20.cell? ⟨w.heap.size, 1, none⟩ = some (.int .i64 u) := keep hb (by first | assumption | exact lay _ ‹_› | exact lay _ (lay _ ‹_›) | (simp; done) | exact lay _ (by simp) | (simp [*]; done))
  replace kp : w.heap.size < w20.heap.size := World.block_lt_of_cell? _ _ qp0
  replace qa00 : w20.cell? ⟨w4.heap.size, 0, none⟩ = some (.int .i64 (runX h u s n l).1) := keep hb (by first | assumption | exact lay _ ‹_› | exact lay _ (lay _ ‹_›) | (simp; done) | exact lay _ (by simp) | (simp [*]; done))
  replace qa01 : w20.cell? ⟨w4.heap.size, 1, none⟩ = some (.int .i64 (runX h u s n l).2) := keep hb (by first | assumption | exact lay _ ‹_› | exact lay _ (lay _ ‹_›) | (simp; done) | exact lay _ (by simp) | (simp [*]; done))
  replace ka0 : w4.heap.size < w20.heap.size := World.block_lt_of_cell? _ _ qa00
  replace qb00 : w20.cell? ⟨w7.heap.size, 0, none⟩ = some (.int .i64 (runX h u s n l).1) := keep hb (by first | assumption | exact lay _ ‹_› | exact lay _ (lay _ ‹_›) | (simp; done) | exact lay _ (by simp) | (simp [*]; done))
  replace qb01 : w20.cell? ⟨w7.heap.size, 1, none⟩ = some (.int .i64 (runX h u s n l).2) := keep hb (by first | assumption | exact lay _ ‹_› | exact lay _ (lay _ ‹_›) | (simp; done) | exact lay _ (by simp) | (simp [*]; done))
  replace kb0 : w7.heap.size < w20.heap.size := World.block_lt_of_cell? _ _ qb00
  have qh00 : w20.cell? ⟨w19.heap.size, 0, none⟩ = some (.int .i64 (runX h u s n l).1) := keep hb (by first | assumption | exact lay _ ‹_› | exact lay _ (lay _ ‹_›) | (simp; done) | exact lay _ (by simp) | (simp [*]; done))
  have qh01 : w20.cell? ⟨w19.heap.size, 1, none⟩ = some (.int .i64 (runX h u s n l).2) := keep hb (by first | assumption | exact lay _ ‹_› | exact lay _ (lay _ ‹_›) | (simp; done) | exact lay _ (by simp) | (simp [*]; done))
  have kh0 : w19.heap.size < w20.heap.size := World.block_lt_of_cell? _ _ qh00
  clear hb
  have hB20 : Below w.heap.size w w20 := Below.on' hB19 hb20
  have z20 : w19.heap.size + 1 ≤ w20.heap.size := by have hz := World.block_lt_of_cell? _ _ qh00; have hz2 := hb20.size; simp only at hz; omega
  replace hTa1 := hTa1.below hb20
  replace hTb1 := hTb1.below hb20
  replace hTh1 := hTh1.below hb20
  go_wp2_with fail
  refine (eqBoolS_same _ _ _ _ _ _ _ _ _ _ hLR1 hTh1 hTa1).mono ?_
  rintro e w21 ⟨rfl, hb⟩
  have hb21 : Below w20.heap.size w20 w21 := Below.on' (by go_grown) hb
  replace qp0 : w21.cell? ⟨w.heap.size, 0, none⟩ = some (.int .i64 h) := keep hb (by first | assumption | exact lay _ ‹_› | exact lay _ (lay _ ‹_›) | (simp; done) | exact lay _ (by simp) | (simp [*]; done))
  replace qp1 : w21.cell? ⟨w.heap.size, 1, none⟩ = some (.int .i64 u) := keep hb (by first | assumption | exact lay _ ‹_› | exact lay _ (lay _ ‹_›) | (simp; done) | exact lay _ (by simp) | (simp [*]; done))
  replace kp : w.heap.size < w21.heap.size := World.block_lt_of_cell? _ _ qp0
  replace qa00 : w21.cell? ⟨w4.heap.size, 0, none⟩ = some (.int .i64 (runX h u s n l).1) := keep hb (by first | assumption | exact lay _ ‹_› | exact lay _ (lay _ ‹_›) | (simp; done) | exact lay _ (by simp) | (simp [*]; done))
  replace qa01 : w21.cell? ⟨w4.heap.size, 1, none⟩ = some (.int .i64 (runX h u s n l).2) := keep hb (by first | assumption | exact lay _ ‹_› | exact lay _ (lay _ ‹_›) | (simp; done) | exact lay _ (by simp) | (simp [*]; done))
  replace ka0 : w4.heap.size < w21.heap.size := World.block_lt_of_cell? _ _ qa00
  replace qb00 : w21.cell? ⟨w7.heap.size, 0, none⟩ = some (.int .i64 (runX h u s n l).1) := keep hb (by first | assumption | exact lay _ ‹_› | exact lay _ (lay _ ‹_›) | (simp; done) | exact lay _ (by simp) | (simp [*]; done))
  replace qb01 : w21.cell? ⟨w7.heap.size, 1, none⟩ = some (.int .i64 (runX h u s n l).2) := keep hb (by first | assumption | exact lay _ ‹_› | exact lay _ (lay _ ‹_›) | (simp; done) | exact lay _ (by simp) | (simp [*]; done))
  replace kb0 : w7.heap.size < w21.heap.size := World.block_lt_of_cell? _ _ qb00
  replace qh00 : w21.cell? ⟨w19.heap.size, 0, none⟩ = some (.int .i64 (runX h u s n l).1) := keep hb (by first | assumption | exact lay _ ‹_› | exact lay _ (lay _ ‹_›) | (simp; done) | exact lay _ (by simp) | (simp [*]; done))
  replace qh01 : w21.cell? ⟨w19.heap.size, 1, none⟩ = some (.int .i64 (runX h u s n l).2) := keep hb (by first | assumption | exact lay _ ‹_› | exact lay _ (lay _ ‹_›) | (simp; done) | exact lay _ (by simp) | (simp [*]; done))
  replace kh0 : w19.heap.size < w21.heap.size := World.block_lt_of_cell? _ _ qh00
  clear hb
  have hB21 : Below w.heap.size w w21 := Below.on' hB20 hb21
  have z21 : w20.heap.size + 0 ≤ w21.heap.size := by have hz2 := hb21.size; omega
  replace hTa1 := hTa1.below hb21
  replace hTb1 := hTb1.below hb21
  replace hTh1 := hTh1.below hb21
  clear hTh1
  clear hTa1
  go_wp2_with fail
  refine (heldBoolS_any _ _ _ _ _ _ _ hLR1 (by omega) (by omega) hTb1).mono ?_
  rintro e w22 ⟨rfl, hb⟩
  have hb22 : Below w21.heap.size w21 w22 := Below.on' (by go_grown) hb
  replace qp0 : w22.cell? ⟨w.heap.size, 0, none⟩ = some (.int .i64 h) := keep hb (by first | assumption | exact lay _ ‹_› | exact lay _ (lay _ ‹_›) | (simp; done) | exact lay _ (by simp) | (simp [*]; done))
  replace qp1 : w22.cell? ⟨w.heap.size, 1, none⟩ = some (.int .i64 u) := keep hb (by first | assumption | exact lay _ ‹_› | exact lay _ (lay _ ‹_›) | (simp; done) | exact lay _ (by simp) | (simp [*]; done))
  replace kp : w.heap.size < w22.heap.size := World.block_lt_of_cell? _ _ qp0
  replace qa00 : w22.cell? ⟨w4.heap.size, 0, none⟩ = some (.int .i64 (runX h u s n l).1) := keep hb (by first | assumption | exact lay _ ‹_› | exact lay _ (lay _ ‹_›) | (simp; done) | exact lay _ (by simp) | (simp [*]; done))
  replace qa01 : w22.cell? ⟨w4.heap.size, 1, none⟩ = some (.int .i64 (runX h u s n l).2) := keep hb (by first | assumption | exact lay _ ‹_› | exact lay _ (lay _ ‹_›) | (simp; done) | exact lay _ (by simp) | (simp [*]; done))
  replace ka0 : w4.heap.size < w22.heap.size := World.block_lt_of_cell? _ _ qa00
  replace qb00 : w22.cell? ⟨w7.heap.size, 0, none⟩ = some (.int .i64 (runX h u s n l).1) := keep hb (by first | assumption | exact lay _ ‹_› | exact lay _ (lay _ ‹_›) | (simp; done) | exact lay _ (by simp) | (simp [*]; done))
  replace qb01 : w22.cell? ⟨w7.heap.size, 1, none⟩ = some (.int .i64 (runX h u s n l).2) := keep hb (by first | assumption | exact lay _ ‹_› | exact lay _ (lay _ ‹_›) | (simp; done) | exact lay _ (by simp) | (simp [*]; done))
  replace kb0 : w7.heap.size < w22.heap.size := World.block_lt_of_cell? _ _ qb00
  replace qh00 : w22.cell? ⟨w19.heap.size, 0, none⟩ = some (.int .i64 (runX h u s n l).1) := keep hb (by first | assumption | exact lay _ ‹_› | exact lay _ (lay _ ‹_›) | (simp; done) | exact lay _ (by simp) | (simp [*]; done))
  replace qh01 : w22.cell? ⟨w19.heap.size, 1, none⟩ = some (.int .i64 (runX h u s n l).2) := keep hb (by first | assumption | exact lay _ ‹_› | exact lay _ (lay _ ‹_›) | (simp; done) | exact lay _ (by simp) | (simp [*]; done))
  replace kh0 : w19.heap.size < w22.heap.size := World.block_lt_of_cell? _ _ qh00
  clear hb
  have hB22 : Below w.heap.size w w22 := Below.on' hB21 hb22
  have z22 : w21.heap.size + 0 ≤ w22.heap.size := by have hz2 := hb22.size; omega
  replace hTb1 := hTb1.below hb22
  go_wp2_with fail
  go_ret
  exact ⟨rfl, hB22⟩

theorem cells_0 : Try.prog.cellsOf 23 = 2 := by kernel_rfl
set_option maxRecDepth 100000 in
theorem lifted (os : Os) (started : os.Started) (H : Type) (enc : TypeId × Value → H) :
    ReturnsInHanded {} Try.checked os 11 .any (Rows.fnExactRunAsksSpec.pre6 enc Try.prog Try.f11 Rows.fnExactRunAsksRow.domain false) (Rows.fnExactRunAsksSpec.post enc Try.prog Try.f11 false true false false) := by
  refine law_lifted (C := Try.checked) own started (by kernel_rfl) Try.func11
    (ChangeSpec.witness6 (enc := enc) (C := Try.checked) false ⟨#[], #[.agg #[.int .i64 0, .int .i64 0], .slice none 0 0, .int .i64 0, .int .i64 0], []⟩ 8 (by kernel_rfl) (by kernel_rfl) (by kernel_rfl) (by kernel_rfl))
    laidOut 4 (by kernel_rfl) Try.underlying4 (by kernel_rfl) rfl ?_ ?_
  · intro ds hds
    have hn : Try.f11.params.size = 4 := by kernel_rfl
    rw [hn] at hds
    match ds, hds with
    | [d0, d1, d2, d3], _ => rfl
  intro W base args ds p hval0 hA0 hlt hnf hsh
  have hval : ∀ (j : Nat) t v, Try.f11.params[j]? = some t → args[j]? = some v → Value.okWide Try.prog W .any base t v := hval0
  have hA : DataW.TrodAll enc Try.prog W 0 (fun _ => true) true Try.f11.params.toList args.toList ds p := hA0
  clear hval0 hA0
  rw [Try.params11] at hA hval
  obtain ⟨v0, vs0, d0, ds0, p0, q0, hargs, rfl, rfl, h0, r0⟩ := trodAll_cons hA
  obtain ⟨v1, vs1, d1, ds1, p1, q1, rfl, rfl, rfl, h1, r1⟩ := trodAll_cons r0
  obtain ⟨v2, vs2, d2, ds2, p2, q2, rfl, rfl, rfl, h2, r2⟩ := trodAll_cons r1
  obtain ⟨v3, vs3, d3, ds3, p3, q3, rfl, rfl, rfl, h3, r3⟩ := trodAll_cons r2
  obtain ⟨rfl, rfl, rfl⟩ := trodAll_nil r3
  obtain rfl : args = #[v0, v1, v2, v3] := by cases args; simp_all
  obtain ⟨c00, c01, y00, y01, m0, rfl, rfl, rfl, hy00, hy01⟩ := open_agg2 Try.underlying23 (by kernel_rfl) cells_0 (hval 0 23 v0 rfl rfl) h0
  obtain ⟨h, e00, rfl, wh⟩ := DataW.trod_int Try.underlying3 hy00
  obtain ⟨u, e01, rfl, wu⟩ := DataW.trod_int Try.underlying3 hy01
  simp at e00 e01
  subst e00 e01
  obtain ⟨Al, cl, l, rfl, hll, hml, hSl⟩ := Aks.openedS (hval 1 48 v1 rfl rfl) h1 (fun x hx => hlt x (by simp [hx])) (fun b o h => hnf b o (by simp [h]))
  obtain ⟨s, rfl, rfl, rfl, ws⟩ := open_int Try.underlying3 (hval 2 3 v2 rfl rfl) h2
  obtain ⟨n, rfl, rfl, rfl, wn⟩ := open_int Try.underlying3 (hval 3 3 v3 rfl rfl) h3
  exact walk h u Al cl l hll hml s n W hSl

theorem over : Rows.fnExactRunAsksRow.holds Try.pinned (OpenSpec.ofChange Rows.fnExactRunAsksSpec) :=
  OpenClaim.holds_of_wide 11 Try.f11 rfl rfl rfl rfl rfl rfl rfl ⟨rfl, rfl, rfl, rfl, rfl⟩ rfl rfl rfl rfl rfl (by kernel_rfl) Try.func11 (by kernel_rfl)
    (of_decide_eq_true (by kernel_rfl)) (by unfold Func.isWrapper; first | (rw [if_pos (by decide +kernel)]; kernel_rfl) | (rw [if_neg (by decide +kernel)]; exact ⟨rfl, rfl⟩))
    (fun os started H enc _ => lifted os started H enc)

theorem proved : Rows.FnExactRunAsksSaid :=
  over
#print axioms proved
end Go.Proofs.Ytdponfmhpedccaa.lawRunAsks

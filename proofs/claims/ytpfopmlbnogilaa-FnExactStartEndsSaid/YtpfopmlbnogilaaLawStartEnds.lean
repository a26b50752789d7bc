/- FnExactStartEnds: the program's StartEnds returns what the reference's returns, for all arguments. No conditions. -/
import Derived.Test.YtpfopmlbnogilaaEnds
import Derived.Test.YtpfopmlbnogilaaAppArg
import Derived.Test.YtpfopmlbnogilaaRow
namespace Go.Proofs.Ytpfopmlbnogilaa.lawStartEnds
open Go.ChangeShapes Go.WideShapes Go.ChangeAt Go.RowKit Go.Joins Go.Proofs.Ytpfopmlbnogilaa

set_option maxRecDepth 100000 in
set_option maxHeartbeats 8000000 in
theorem walk (Al : Option Addr) (cl : Nat) (l : List App) (hll : l.length ≤ maxLen) (hml : ∀ x ∈ l, x.nm.size ≤ maxLen) (w : World) (hSl : Apps w 0 w.heap.size Al l) : Calls Try.prog 9 #[.slice Al l.length cl] w fun e w' => e = .returned (.bool true) ∧ Below w.heap.size w w' := by
  go_enter Try.func9, Try.ntmps9
  go_wp2_with fail
  refine (szApplianceS_any Al cl l _ _ hll hml hSl.all (by omega) (by omega)).mono ?_
  rintro e w1 ⟨q0, rfl, hq0, hrest, hb⟩
  have hb1 : Below w.heap.size w w1 := Below.on' (by go_grown) hb
  clear hb
  have hB1 : Below w.heap.size w w1 := hb1
  have z1 : w.heap.size + 0 ≤ w1.heap.size := by have hz2 := hb1.size; omega
  by_cases h0q : q0 < 0
  · go_wp2
    go_ret
    exact ⟨rfl, hB1⟩
  obtain ⟨hl'l, hm'l⟩ := hrest (by omega)
  clear hrest
  obtain ⟨hLR1, hLR2⟩ := seT_len hl'l
  go_wp2_with fail
  refine (toApplianceS_any Al cl l _ hl'l (hSl.below hB1).all).mono ?_
  rintro e w2 ⟨gt, rfl, hU, hb⟩
  have hb2 : Below w1.heap.size w1 w2 := Below.on' (by go_grown) hb
  clear hb
  have hB2 : Below w.heap.size w w2 := Below.on' hB1 hb2
  have z2 : w1.heap.size + 0 ≤ w2.heap.size := by have hz2 := hb2.size; omega
  have hTt := hU.mono (lo' := w1.heap.size) (hi' := w2.heap.size) (by first | exact Nat.le_refl _ | (simp; done) | (simp; omega)) (Nat.le_refl _) (Nat.le_refl _)
  clear hU
  go_wp2_with fail
  refine (StartEnds_spec (some ⟨gt, 0, none⟩) l.length l _ hl'l hm'l hTt.all).mono ?_
  rintro e w3 ⟨Aa1, ca1, Aa2, ca2, ma, rfl, hTa1, hTa2, ia, ja, hb⟩
  have hb3 : Below w2.heap.size w2 w3 := Below.on' (by go_grown) hb
  clear hb
  have hB3 : Below w.heap.size w w3 := Below.on' hB2 hb3
  have z3 : w2.heap.size + 0 ≤ w3.heap.size := by have hz2 := hb3.size; omega
  replace hTt := hTt.below hb3
  have va : w2.heap.size ≤ ma := by have h := ia; first | omega | (simp at h; omega)
  replace hTa1 := hTa1.mono (lo' := w2.heap.size) (hi' := ma) (by first | exact Nat.le_refl _ | (simp; done) | (simp; omega)) (Nat.le_refl _) ja
  clear hTt
  go_wp2_with fail
  refine (toApplianceS_any Al cl l _ hl'l ((hSl.below hB3).alloc _).all).mono ?_
  rintro e w4 ⟨gx, rfl, hU, hb⟩
  have hb4 : Below w3.heap.size w3 w4 := Below.on' (by go_grown) hb
  have qa0 : w4.cell? ⟨w3.heap.size, 0, none⟩ = some (.slice Aa1 ((seT l).1.1).length ca1) := keep hb (by first | assumption | exact lay _ ‹_› | exact lay _ (lay _ ‹_›) | (simp; done) | exact lay _ (by simp) | (simp [*]; done))
  have qa1 : w4.cell? ⟨w3.heap.size, 1, none⟩ = some (.slice Aa2 ((seT l).1.2).length ca2) := keep hb (by first | assumption | exact lay _ ‹_› | exact lay _ (lay _ ‹_›) | (simp; done) | exact lay _ (by simp) | (simp [*]; done))
  have qa2 : w4.cell? ⟨w3.heap.size, 2, none⟩ = some (.slice none 0 0) := keep hb (by first | assumption | exact lay _ ‹_› | exact lay _ (lay _ ‹_›) | (simp; done) | exact lay _ (by simp) | (simp [*]; done))
  have qa3 : w4.cell? ⟨w3.heap.size, 3, none⟩ = some (.slice none 0 0) := keep hb (by first | assumption | exact lay _ ‹_› | exact lay _ (lay _ ‹_›) | (simp; done) | exact lay _ (by simp) | (simp [*]; done))
  have qa4 : w4.cell? ⟨w3.heap.size, 4, none⟩ = some (.slice none 0 0) := keep hb (by first | assumption | exact lay _ ‹_› | exact lay _ (lay _ ‹_›) | (simp; done) | exact lay _ (by simp) | (simp [*]; done))
  have ka : w3.heap.size < w4.heap.size := World.block_lt_of_cell? _ _ qa0
  clear hb
  have hB4 : Below w.heap.size w w4 := Below.on' hB3 hb4
  have z4 : w3.heap.size + 1 ≤ w4.heap.size := by have hz := World.block_lt_of_cell? _ _ qa0; have hz2 := hb4.size; simp only at hz; omega
  replace hTa1 := hTa1.below hb4
  replace hTa2 := hTa2.below hb4
  have hTx := hU.mono (lo' := w3.heap.size + 1) (hi' := w4.heap.size) (by first | exact Nat.le_refl _ | (simp; done) | (simp; omega)) (Nat.le_refl _) (Nat.le_refl _)
  clear hU
  go_wp2_with fail
  refine (StartEnds_impl (some ⟨gx, 0, none⟩) l.length l _ hl'l hm'l hTx.all).mono ?_
  rintro e w5 ⟨Ab1, cb1, Ab2, cb2, mb, rfl, hTb1, hTb2, ib, jb, hb⟩
  have hb5 : Below w4.heap.size w4 w5 := Below.on' (by go_grown) hb
  replace qa0 : w5.cell? ⟨w3.heap.size, 0, none⟩ = some (.slice Aa1 ((seT l).1.1).length ca1) := keep hb (by first | assumption | exact lay _ ‹_› | exact lay _ (lay _ ‹_›) | (simp; done) | exact lay _ (by simp) | (simp [*]; done))
  replace qa1 : w5.cell? ⟨w3.heap.size, 1, none⟩ = some (.slice Aa2 ((seT l).1.2).length ca2) := keep hb (by first | assumption | exact lay _ ‹_› | exact lay _ (lay _ ‹_›) | (simp; done) | exact lay _ (by simp) | (simp [*]; done))
  replace qa2 : w5.cell? ⟨w3.heap.size, 2, none⟩ = some (.slice none 0 0) := keep hb (by first | assumption | exact lay _ ‹_› | exact lay _ (lay _ ‹_›) | (simp; done) | exact lay _ (by simp) | (simp [*]; done))
  replace qa3 : w5.cell? ⟨w3.heap.size, 3, none⟩ = some (.slice none 0 0) := keep hb (by first | assumption | exact lay _ ‹_› | exact lay _ (lay _ ‹_›) | (simp; done) | exact lay _ (by simp) | (simp [*]; done))
  replace qa4 : w5.cell? ⟨w3.heap.size, 4, none⟩ = some (.slice none 0 0) := keep hb (by first | assumption | exact lay _ ‹_› | exact lay _ (lay _ ‹_›) | (simp; done) | exact lay _ (by simp) | (simp [*]; done))
  replace ka : w3.heap.size < w5.heap.size := World.block_lt_of_cell? _ _ qa0
  clear hb
  have hB5 : Below w.heap.size w w5 := Below.on' hB4 hb5
  have z5 : w4.heap.size + 0 ≤ w5.heap.size := by have hz2 := hb5.size; omega
  replace hTa1 := hTa1.below hb5
  replace hTa2 := hTa2.below hb5
  replace hTx := hTx.below hb5
  have vb : w4.heap.size ≤ mb := by have h := ib; first | omega | (simp at h; omega)
  replace hTb1 := hTb1.mono (lo' := w4.heap.size) (hi' := mb) (by first | exact Nat.le_refl _ | (simp; done) | (simp; omega)) (Nat.le_refl _) jb
  go_wp2_with fail
  refine (eqEnds_same _ _ _ _ _ _ _ _ _ _ _ _ _ _ _ _ _ _ none none 0 0 [] 0 0 0 0 none none 0 0 [] 0 0 0 0 none none 0 0 [] 0 0 0 0 _ hLR1 (hTb1.alloc _) (hTa1.alloc _) hLR2 (hTb2.alloc _) (hTa2.alloc _) (by simp) Sl.nil_ Sl.nil_ (by simp) Sl.nil_ Sl.nil_ (by simp) Sl.nil_ Sl.nil_).mono ?_
  rintro e w6 ⟨rfl, hb⟩
  have hb6 : Below w5.heap.size w5 w6 := Below.on' (by go_grown) hb
  replace qa0 : w6.cell? ⟨w3.heap.size, 0, none⟩ = some (.slice Aa1 ((seT l).1.1).length ca1) := keep hb (by first | assumption | exact lay _ ‹_› | exact lay _ (lay _ ‹_›) | (simp; done) | exact lay _ (by simp) | (simp [*]; done))
  replace qa1 : w6.cell? ⟨w3.heap.size, 1, none⟩ = some (.slice Aa2 ((seT l).1.2).length ca2) := keep hb (by first | assumption | exact lay _ ‹_› | exact lay _ (lay _ ‹_›) | (simp; done) | exact lay _ (by simp) | (simp [*]; done))
  replace qa2 : w6.cell? ⟨w3.heap.size, 2, none⟩ = some (.slice none 0 0) := keep hb (by first | assumption | exact lay _ ‹_› | exact lay _ (lay _ ‹_›) | (simp; done) | exact lay _ (by simp) | (simp [*]; done))
  replace qa3 : w6.cell? ⟨w3.heap.size, 3, none⟩ = some (.slice none 0 0) := keep hb (by first | assumption | exact lay _ ‹_› | exact lay _ (lay _ ‹_›) | (simp; done) | exact lay _ (by simp) | (simp [*]; done))
  replace qa4 : w6.cell? ⟨w3.heap.size, 4, none⟩ = some (.slice none 0 0) := keep hb (by first | assumption | exact lay _ ‹_› | exact lay _ (lay _ ‹_›) | (simp; done) | exact lay _ (by simp) | (simp [*]; done))
  replace ka : w3.heap.size < w6.heap.size := World.block_lt_of_cell? _ _ qa0
  have qb0 : w6.cell? ⟨w5.heap.size, 0, none⟩ = some (.slice Ab1 ((seT l).1.1).length cb1) := keep hb (by first | assumption | exact lay _ ‹_› | exact lay _ (lay _ ‹_›) | (simp; done) | exact lay _ (by simp) | (simp [*]; done))
  have qb1 : w6.cell? ⟨w5.heap.size, 1, none⟩ = some (.slice Ab2 ((seT l).1.2).length cb2) := keep hb (by first | assumption | exact lay _ ‹_› | exact lay _ (lay _ ‹_›) | (simp; done) | exact lay _ (by simp) | (simp [*]; done))
  have qb2 : w6.cell? ⟨w5.heap.size, 2, none⟩ = some (.slice none 0 0) := keep hb (by first | assumption | exact lay _ ‹_› | exact lay _ (lay _ ‹_›) | (simp; done) | exact lay _ (by simp) | (simp [*]; done))
  have qb3 : w6.cell? ⟨w5.heap.size, 3, none⟩ = some (.slice none 0 0) := keep hb (by first | assumption | exact lay _ ‹_› | exact lay _ (lay _ ‹_›) | (simp; done) | exact lay _ (by simp) | (simp [*]; done))
  have qb4 : w6.cell? ⟨w5.heap.size, 4, none⟩ = some (.slice none 0 0) := keep hb (by first | assumption | exact lay _ ‹_› | exact lay _ (lay _ ‹_›) | (simp; done) | exact lay _ (by simp) | (simp [*]; done))
  have kb : w5.heap.size < w6.heap.size := World.block_lt_of_cell? _ _ qb0
  clear hb
  have hB6 : Below w.heap.size w w6 := Below.on' hB5 hb6
  have z6 : w5.heap.size + 1 ≤ w6.heap.size := by have hz := World.block_lt_of_cell? _ _ qb0; have hz2 := hb6.size; simp only at hz; omega
  replace hTa1 := hTa1.below hb6
  replace hTa2 := hTa2.below hb6
  replace hTx := hTx.below hb6
  replace hTb1 := hTb1.below hb6
  replace hTb2 := hTb2.below hb6
  go_wp2_with fail
  refine (toApplianceS_any Al cl l _ hl'l (hSl.below hB6).all).mono ?_
  rintro e w7 ⟨gy, rfl, hU, hb⟩
  have hb7 : Below w6.heap.size w6 w7 := Below.on' (by go_grown) hb
  replace qa0 : w7.cell? ⟨w3.heap.size, 0, none⟩ = some (.slice Aa1 ((seT l).1.1).length ca1) := keep hb (by first | assumption | exact lay _ ‹_› | exact lay _ (lay _ ‹_›) | (simp; done) | exact lay _ (by simp) | (simp [*]; done))
  replace qa1 : w7.cell? ⟨w3.heap.size, 1, none⟩ = some (.slice Aa2 ((seT l).1.2).length ca2) := keep hb (by first | assumption | exact lay _ ‹_› | exact lay _ (lay _ ‹_›) | (simp; done) | exact lay _ (by simp) | (simp [*]; done))
  replace qa2 : w7.cell? ⟨w3.heap.size, 2, none⟩ = some (.slice none 0 0) := keep hb (by first | assumption | exact lay _ ‹_› | exact lay _ (lay _ ‹_›) | (simp; done) | exact lay _ (by simp) | (simp [*]; done))
  replace qa3 : w7.cell? ⟨w3.heap.size, 3, none⟩ = some (.slice none 0 0) := keep hb (by first | assumption | exact lay _ ‹_› | exact lay _ (lay _ ‹_›) | (simp; done) | exact lay _ (by simp) | (simp [*]; done))
  replace qa4 : w7.cell? ⟨w3.heap.size, 4, none⟩ = some (.slice none 0 0) := keep hb (by first | assumption | exact lay _ ‹_› | exact lay _ (lay _ ‹_›) | (simp; done) | exact lay _ (by simp) | (simp [*]; done))
  replace ka : w3.heap.size < w7.heap.size := World.block_lt_of_cell? _ _ qa0
  replace qb0 : w7.cell? ⟨w5.heap.size, 0, none⟩ = some (.slice Ab1 ((seT l).1.1).length cb1) := keep hb (by first | assumption | exact lay _ ‹_› | exact lay _ (lay _ ‹_›) | (simp; done) | exact lay _ (by simp) | (simp [*]; done))
  replace qb1 : w7.cell? ⟨w5.heap.size, 1, none⟩ = some (.slice Ab2 ((seT l).1.2).length cb2) := keep hb (by first | assumption | exact lay _ ‹_› | exact lay _ (lay _ ‹_›) | (simp; done) | exact lay _ (by simp) | (simp [*]; done))
  replace qb2 : w7.cell? ⟨w5.heap.size, 2, none⟩ = some (.slice none 0 0) := keep hb (by first | assumption | exact lay _ ‹_› | exact lay _ (lay _ ‹_›) | (simp; done) | exact lay _ (by simp) | (simp [*]; done))
  replace qb3 : w7.cell? ⟨w5.heap.size, 3, none⟩ = some (.slice none 0 0) := keep hb (by first | assumption | exact lay _ ‹_› | exact lay _ (lay _ ‹_›) | (simp; done) | exact lay _ (by simp) | (simp [*]; done))
  replace qb4 : w7.cell? ⟨w5.heap.size, 4, none⟩ = some (.slice none 0 0) := keep hb (by first | assumption | exact lay _ ‹_› | exact lay _ (lay _ ‹_›) | (simp; done) | exact lay _ (by simp) | (simp [*]; done))
  replace kb : w5.heap.size < w7.heap.size := World.block_lt_of_cell? _ _ qb0
  clear hb
  have hB7 : Below w.heap.size w w7 := Below.on' hB6 hb7
  have z7 : w6.heap.size + 0 ≤ w7.heap.size := by have hz2 := hb7.size; omega
  replace hTa1 := hTa1.below hb7
  replace hTa2 := hTa2.below hb7
  replace hTx := hTx.below hb7
  replace hTb1 := hTb1.below hb7
  replace hTb2 := hTb2.below hb7
  have hTy := hU.mono (lo' := w6.heap.size) (hi' := w7.heap.size) (by first | exact Nat.le_refl _ | (simp; done) | (simp; omega)) (Nat.le_refl _) (Nat.le_refl _)
  clear hU
  go_wp2_with fail
  refine (eqApplianceS_same _ _ _ _ _ _ _ _ _ _ hl'l hTx hTy).mono ?_
  rintro e w8 ⟨rfl, hb⟩
  have hb8 : Below w7.heap.size w7 w8 := Below.on' (by go_grown) hb
  replace qa0 : w8.cell? ⟨w3.heap.size, 0, none⟩ = some (.slice Aa1 ((seT l).1.1).length ca1) := keep hb (by first | assumption | exact lay _ ‹_› | exact lay _ (lay _ ‹_›) | (simp; done) | exact lay _ (by simp) | (simp [*]; done))
  replace qa1 : w8.cell? ⟨w3.heap.size, 1, none⟩ = some (.slice Aa2 ((seT l).1.2).length ca2) := keep hb (by first | assumption | exact lay _ ‹_› | exact lay _ (lay _ ‹_›) | (simp; done) | exact lay _ (by simp) | (simp [*]; done))
  replace qa2 : w8.cell? ⟨w3.heap.size, 2, none⟩ = some (.slice none 0 0) := keep hb (by first | assumption | exact lay _ ‹_› | exact lay _ (lay _ ‹_›) | (simp; done) | exact lay _ (by simp) | (simp [*]; done))
  replace qa3 : w8.cell? ⟨w3.heap.size, 3, none⟩ = some (.slice none 0 0) := keep hb (by first | assumption | exact lay _ ‹_› | exact lay _ (lay _ ‹_›) | (simp; done) | exact lay _ (by simp) | (simp [*]; done))
  replace qa4 : w8.cell? ⟨w3.heap.size, 4, none⟩ = some (.slice none 0 0) := keep hb (by first | assumption | exact lay _ ‹_› | exact lay _ (lay _ ‹_›) | (simp; done) | exact lay _ (by simp) | (simp [*]; done))
  replace ka : w3.heap.size < w8.heap.size := World.block_lt_of_cell? _ _ qa0
  replace qb0 : w8.cell? ⟨w5.heap.size, 0, none⟩ = some (.slice Ab1 ((seT l).1.1).length cb1) := keep hb (by first | assumption | exact lay _ ‹_› | exact lay _ (lay _ ‹_›) | (simp; done) | exact lay _ (by simp) | (simp [*]; done))
  replace qb1 : w8.cell? ⟨w5.heap.size, 1, none⟩ = some (.slice Ab2 ((seT l).1.2).length cb2) := keep hb (by first | assumption | exact lay _ ‹_› | exact lay _ (lay _ ‹_›) | (simp; done) | exact lay _ (by simp) | (simp [*]; done))
  replace qb2 : w8.cell? ⟨w5.heap.size, 2, none⟩ = some (.slice none 0 0) := keep hb (by first | assumption | exact lay _ ‹_› | exact lay _ (lay _ ‹_›) | (simp; done) | exact lay _ (by simp) | (simp [*]; done))
  replace qb3 : w8.cell? ⟨w5.heap.size, 3, none⟩ = some (.slice none 0 0) := keep hb (by first | assumption | exact lay _ ‹_› | exact lay _ (lay _ ‹_›) | (simp; done) | exact lay _ (by simp) | (simp [*]; done))
  replace qb4 : w8.cell? ⟨w5.heap.size, 4, none⟩ = some (.slice none 0 0) := keep hb (by first | assumption | exact lay _ ‹_› | exact lay _ (lay _ ‹_›) | (simp; done) | exact lay _ (by simp) | (simp [*]; done))
  replace kb : w5.heap.size < w8.heap.size := World.block_lt_of_cell? _ _ qb0
  clear hb
  have hB8 : Below w.heap.size w w8 := Below.on' hB7 hb8
  have z8 : w7.heap.size + 0 ≤ w8.heap.size := by have hz2 := hb8.size; omega
  replace hTa1 := hTa1.below hb8
  replace hTa2 := hTa2.below hb8
  replace hTx := hTx.below hb8
  replace hTb1 := hTb1.below hb8
  replace hTb2 := hTb2.below hb8
  replace hTy := hTy.below hb8
  clear hTy
  go_wp2_with fail
  refine (markApplianceS_any _ _ _ _ _ _ _ hl'l (by omega) (by omega) hTx).mono ?_
  rintro e w9 ⟨rfl, hM, hF⟩
  replace qa0 := (World.cell?_of_block (hF.block _ (World.block_lt_of_cell? _ _ qa0) (by simp only; omega))).trans qa0
  replace qa1 := (World.cell?_of_block (hF.block _ (World.block_lt_of_cell? _ _ qa1) (by simp only; omega))).trans qa1
  replace qa2 := (World.cell?_of_block (hF.block _ (World.block_lt_of_cell? _ _ qa2) (by simp only; omega))).trans qa2
  replace qa3 := (World.cell?_of_block (hF.block _ (World.block_lt_of_cell? _ _ qa3) (by simp only; omega))).trans qa3
  replace qa4 := (World.cell?_of_block (hF.block _ (World.block_lt_of_cell? _ _ qa4) (by simp only; omega))).trans qa4
  replace ka : w3.heap.size < w9.heap.size := World.block_lt_of_cell? _ _ qa0
  replace qb0 := (World.cell?_of_block (hF.block _ (World.block_lt_of_cell? _ _ qb0) (by simp only; omega))).trans qb0
  replace qb1 := (World.cell?_of_block (hF.block _ (World.block_lt_of_cell? _ _ qb1) (by simp only; omega))).trans qb1
  replace qb2 := (World.cell?_of_block (hF.block _ (World.block_lt_of_cell? _ _ qb2) (by simp only; omega))).trans qb2
  replace qb3 := (World.cell?_of_block (hF.block _ (World.block_lt_of_cell? _ _ qb3) (by simp only; omega))).trans qb3
  replace qb4 := (World.cell?_of_block (hF.block _ (World.block_lt_of_cell? _ _ qb4) (by simp only; omega))).trans qb4
  replace kb : w5.heap.size < w9.heap.size := World.block_lt_of_cell? _ _ qb0
  have hB9 : Below w.heap.size w w9 := hB8.trans (hF.below (by omega) (by omega))
  have z9 : w8.heap.size ≤ w9.heap.size := hF.size
  replace hTa1 := hTa1.fr hF (by omega)
  replace hTa2 := hTa2.fr hF (by omega)
  replace hTb1 := hTb1.fr hF (by omega)
  replace hTb2 := hTb2.fr hF (by omega)
  clear hF
  replace hTx := hM
  clear hM
  clear hTx
  go_wp2_with fail
  refine (eqEnds_same _ _ _ _ _ _ _ _ _ _ _ _ _ _ _ _ _ _ none none 0 0 [] 0 0 0 0 none none 0 0 [] 0 0 0 0 none none 0 0 [] 0 0 0 0 _ hLR1 hTb1 hTa1 hLR2 hTb2 hTa2 (by simp) Sl.nil_ Sl.nil_ (by simp) Sl.nil_ Sl.nil_ (by simp) Sl.nil_ Sl.nil_).mono ?_
  rintro e w10 ⟨rfl, hb⟩
  have hb10 : Below w9.heap.size w9 w10 := Below.on' (by go_grown) hb
  replace qa0 : w10.cell? ⟨w3.heap.size, 0, none⟩ = some (.slice Aa1 ((seT l).1.1).length ca1) := keep hb (by first | assumption | exact lay _ ‹_› | exact lay _ (lay _ ‹_›) | (simp; done) | exact lay _ (by simp) | (simp [*]; done))
  replace qa1 : w10.cell? ⟨w3.heap.size, 1, none⟩ = some (.slice Aa2 ((seT l).1.2).length ca2) := keep hb (by first | assumption | exact lay _ ‹_› | exact lay _ (lay _ ‹_›) | (simp; done) | exact lay _ (by simp) | (simp [*]; done))
  replace qa2 : w10.cell? ⟨w3.heap.size, 2, none⟩ = some (.slice none 0 0) := keep hb (by first | assumption | exact lay _ ‹_› | exact lay _ (lay _ ‹_›) | (simp; done) | exact lay _ (by simp) | (simp [*]; done))
  replace qa3 : w10.cell? ⟨w3.heap.size, 3, none⟩ = some (.slice none 0 0) := keep hb (by first | assumption | exact lay _ ‹_› | exact lay _ (lay _ ‹_›) | (simp; done) | exact lay _ (by simp) | (simp [*]; done))
  replace qa4 : w10.cell? ⟨w3.heap.size, 4, none⟩ = some (.slice none 0 0) := keep hb (by first | assumption | exact lay _ ‹_› | exact lay _ (lay _ ‹_›) | (simp; done) | exact lay _ (by simp) | (simp [*]; done))
  replace ka : w3.heap.size < w10.heap.size := World.block_lt_of_cell? _ _ qa0
  replace qb0 : w10.cell? ⟨w5.heap.size, 0, none⟩ = some (.slice Ab1 ((seT l).1.1).length cb1) := keep hb (by first | assumption | exact lay _ ‹_› | exact lay _ (lay _ ‹_›) | (simp; done) | exact lay _ (by simp) | (simp [*]; done))
  replace qb1 : w10.cell? ⟨w5.heap.size, 1, none⟩ = some (.slice Ab2 ((seT l).1.2).length cb2) := keep hb (by first | assumption | exact lay _ ‹_› | exact lay _ (lay _ ‹_›) | (simp; done) | exact lay _ (by simp) | (simp [*]; done))
  replace qb2 : w10.cell? ⟨w5.heap.size, 2, none⟩ = some (.slice none 0 0) := keep hb (by first | assumption | exact lay _ ‹_› | exact lay _ (lay _ ‹_›) | (simp; done) | exact lay _ (by simp) | (simp [*]; done))
  replace qb3 : w10.cell? ⟨w5.heap.size, 3, none⟩ = some (.slice none 0 0) := keep hb (by first | assumption | exact lay _ ‹_› | exact lay _ (lay _ ‹_›) | (simp; done) | exact lay _ (by simp) | (simp [*]; done))
  replace qb4 : w10.cell? ⟨w5.heap.size, 4, none⟩ = some (.slice none 0 0) := keep hb (by first | assumption | exact lay _ ‹_› | exact lay _ (lay _ ‹_›) | (simp; done) | exact lay _ (by simp) | (simp [*]; done))
  replace kb : w5.heap.size < w10.heap.size := World.block_lt_of_cell? _ _ qb0
  clear hb
  have hB10 : Below w.heap.size w w10 := Below.on' hB9 hb10
  have z10 : w9.heap.size + 0 ≤ w10.heap.size := by have hz2 := hb10.size; omega
  replace hTa1 := hTa1.below hb10
  replace hTa2 := hTa2.below hb10
  replace hTb1 := hTb1.below hb10
  replace hTb2 := hTb2.below hb10
  go_wp2_with fail
  refine (markEnds_nil _ _ _ _ _ _ _ _ _ _ _ _ hLR1 hTb1 hLR2 hTb2 (by omega) (by omega) (w4.heap.size) (w5.heap.size) (by omega) (by omega) (by omega) (by omega)).mono ?_
  rintro e w11 ⟨rfl, hM1, hM2, hF⟩
  replace qa0 := (World.cell?_of_block (hF.block _ (World.block_lt_of_cell? _ _ qa0) (by simp only; omega))).trans qa0
  replace qa1 := (World.cell?_of_block (hF.block _ (World.block_lt_of_cell? _ _ qa1) (by simp only; omega))).trans qa1
  replace qa2 := (World.cell?_of_block (hF.block _ (World.block_lt_of_cell? _ _ qa2) (by simp only; omega))).trans qa2
  replace qa3 := (World.cell?_of_block (hF.block _ (World.block_lt_of_cell? _ _ qa3) (by simp only; omega))).trans qa3
  replace qa4 := (World.cell?_of_block (hF.block _ (World.block_lt_of_cell? _ _ qa4) (by simp only; omega))).trans qa4
  replace ka : w3.heap.size < w11.heap.size := World.block_lt_of_cell? _ _ qa0
  replace qb0 := (World.cell?_of_block (hF.block _ (World.block_lt_of_cell? _ _ qb0) (by simp only; omega))).trans qb0
  replace qb1 := (World.cell?_of_block (hF.block _ (World.block_lt_of_cell? _ _ qb1) (by simp only; omega))).trans qb1
  replace qb2 := (World.cell?_of_block (hF.block _ (World.block_lt_of_cell? _ _ qb2) (by simp only; omega))).trans qb2
  replace qb3 := (World.cell?_of_block (hF.block _ (World.block_lt_of_cell? _ _ qb3) (by simp only; omega))).trans qb3
  replace qb4 := (World.cell?_of_block (hF.block _ (World.block_lt_of_cell? _ _ qb4) (by simp only; omega))).trans qb4
  replace kb : w5.heap.size < w11.heap.size := World.block_lt_of_cell? _ _ qb0
  have hB11 : Below w.heap.size w w11 := hB10.trans (hF.below (by omega) (by omega))
  have z11 : w10.heap.size ≤ w11.heap.size := hF.size
  replace hTa1 := hTa1.fr hF (by omega)
  replace hTa2 := hTa2.fr hF (by omega)
  clear hF
  replace hTb1 := hM1
  replace hTb2 := hM2
  clear hM1 hM2
  go_wp2_with fail
  refine (heldEnds_any _ _ _ _ _ _ _ _ _ _ none 0 0 0 0 none 0 0 0 0 none 0 0 0 0 _ _ hLR1 hTb1 hLR2 hTb2 (by simp) Sl.nil_ (by simp) Sl.nil_ (by simp) Sl.nil_ (by omega) (by omega)).mono ?_
  rintro e w12 ⟨rfl, hb⟩
  have hb12 : Below w11.heap.size w11 w12 := Below.on' (by go_grown) hb
  replace qa0 : w12.cell? ⟨w3.heap.size, 0, none⟩ = some (.slice Aa1 ((seT l).1.1).length ca1) := keep hb (by first | assumption | exact lay _ ‹_› | exact lay _ (lay _ ‹_›) | (simp; done) | exact lay _ (by simp) | (simp [*]; done))
  replace qa1 : w12.cell? ⟨w3.heap.size, 1, none⟩ = some (.slice Aa2 ((seT l).1.2).length ca2) := keep hb (by first | assumption | exact lay _ ‹_› | exact lay _ (lay _ ‹_›) | (simp; done) | exact lay _ (by simp) | (simp [*]; done))
  replace qa2 : w12.cell? ⟨w3.heap.size, 2, none⟩ = some (.slice none 0 0) := keep hb (by first | assumption | exact lay _ ‹_› | exact lay _ (lay _ ‹_›) | (simp; done) | exact lay _ (by simp) | (simp [*]; done))
  replace qa3 : w12.cell? ⟨w3.heap.size, 3, none⟩ = some (.slice none 0 0) := keep hb (by first | assumption | exact lay _ ‹_› | exact lay _ (lay _ ‹_›) | (simp; done) | exact lay _ (by simp) | (simp [*]; done))
  replace qa4 : w12.cell? ⟨w3.heap.size, 4, none⟩ = some (.slice none 0 0) := keep hb (by first | assumption | exact lay _ ‹_› | exact lay _ (lay _ ‹_›) | (simp; done) | exact lay _ (by simp) | (simp [*]; done))
  replace ka : w3.heap.size < w12.heap.size := World.block_lt_of_cell? _ _ qa0
  replace qb0 : w12.cell? ⟨w5.heap.size, 0, none⟩ = some (.slice Ab1 ((seT l).1.1).length cb1) := keep hb (by first | assumption | exact lay _ ‹_› | exact lay _ (lay _ ‹_›) | (simp; done) | exact lay _ (by simp) | (simp [*]; done))
  replace qb1 : w12.cell? ⟨w5.heap.size, 1, none⟩ = some (.slice Ab2 ((seT l).1.2).length cb2) := keep hb (by first | assumption | exact lay _ ‹_› | exact lay _ (lay _ ‹_›) | (simp; done) | exact lay _ (by simp) | (simp [*]; done))
  replace qb2 : w12.cell? ⟨w5.heap.size, 2, none⟩ = some (.slice none 0 0) := keep hb (by first | assumption | exact lay _ ‹_› | exact lay _ (lay _ ‹_›) | (simp; done) | exact lay _ (by simp) | (simp [*]; done))
  replace qb3 : w12.cell? ⟨w5.heap.size, 3, none⟩ = some (.slice none 0 0) := keep hb (by first | assumption | exact lay _ ‹_› | exact lay _ (lay _ ‹_›) | (simp; done) | exact lay _ (by simp) | (simp [*]; done))
  replace qb4 : w12.cell? ⟨w5.heap.size, 4, none⟩ = some (.slice none 0 0) := keep hb (by first | assumption | exact lay _ ‹_› | exact lay _ (lay _ ‹_›) | (simp; done) | exact lay _ (by simp) | (simp [*]; done))
  replace kb : w5.heap.size < w12.heap.size := World.block_lt_of_cell? _ _ qb0
  clear hb
  have hB12 : Below w.heap.size w w12 := Below.on' hB11 hb12
  have z12 : w11.heap.size + 0 ≤ w12.heap.size := by have hz2 := hb12.size; omega
  replace hTa1 := hTa1.below hb12
  replace hTa2 := hTa2.below hb12
  replace hTb1 := hTb1.below hb12
  replace hTb2 := hTb2.below hb12
  go_wp2_with fail
  refine (toApplianceS_any Al cl l _ hl'l (hSl.below hB12).all).mono ?_
  rintro e w13 ⟨gt, rfl, hU, hb⟩
  have hb13 : Below w12.heap.size w12 w13 := Below.on' (by go_grown) hb
  replace qa0 : w13.cell? ⟨w3.heap.size, 0, none⟩ = some (.slice Aa1 ((seT l).1.1).length ca1) := keep hb (by first | assumption | exact lay _ ‹_› | exact lay _ (lay _ ‹_›) | (simp; done) | exact lay _ (by simp) | (simp [*]; done))
  replace qa1 : w13.cell? ⟨w3.heap.size, 1, none⟩ = some (.slice Aa2 ((seT l).1.2).length ca2) := keep hb (by first | assumption | exact lay _ ‹_› | exact lay _ (lay _ ‹_›) | (simp; done) | exact lay _ (by simp) | (simp [*]; done))
  replace qa2 : w13.cell? ⟨w3.heap.size, 2, none⟩ = some (.slice none 0 0) := keep hb (by first | assumption | exact lay _ ‹_› | exact lay _ (lay _ ‹_›) | (simp; done) | exact lay _ (by simp) | (simp [*]; done))
  replace qa3 : w13.cell? ⟨w3.heap.size, 3, none⟩ = some (.slice none 0 0) := keep hb (by first | assumption | exact lay _ ‹_› | exact lay _ (lay _ ‹_›) | (simp; done) | exact lay _ (by simp) | (simp [*]; done))
  replace qa4 : w13.cell? ⟨w3.heap.size, 4, none⟩ = some (.slice none 0 0) := keep hb (by first | assumption | exact lay _ ‹_› | exact lay _ (lay _ ‹_›) | (simp; done) | exact lay _ (by simp) | (simp [*]; done))
  replace ka : w3.heap.size < w13.heap.size := World.block_lt_of_cell? _ _ qa0
  replace qb0 : w13.cell? ⟨w5.heap.size, 0, none⟩ = some (.slice Ab1 ((seT l).1.1).length cb1) := keep hb (by first | assumption | exact lay _ ‹_› | exact lay _ (lay _ ‹_›) | (simp; done) | exact lay _ (by simp) | (simp [*]; done))
  replace qb1 : w13.cell? ⟨w5.heap.size, 1, none⟩ = some (.slice Ab2 ((seT l).1.2).length cb2) := keep hb (by first | assumption | exact lay _ ‹_› | exact lay _ (lay _ ‹_›) | (simp; done) | exact lay _ (by simp) | (simp [*]; done))
  replace qb2 : w13.cell? ⟨w5.heap.size, 2, none⟩ = some (.slice none 0 0) := keep hb (by first | assumption | exact lay _ ‹_› | exact lay _ (lay _ ‹_›) | (simp; done) | exact lay _ (by simp) | (simp [*]; done))
  replace qb3 : w13.cell? ⟨w5.heap.size, 3, none⟩ = some (.slice none 0 0) := keep hb (by first | assumption | exact lay _ ‹_› | exact lay _ (lay _ ‹_›) | (simp; done) | exact lay _ (by simp) | (simp [*]; done))
  replace qb4 : w13.cell? ⟨w5.heap.size, 4, none⟩ = some (.slice none 0 0) := keep hb (by first | assumption | exact lay _ ‹_› | exact lay _ (lay _ ‹_›) | (simp; done) | exact lay _ (by simp) | (simp [*]; done))
  replace kb : w5.heap.size < w13.heap.size := World.block_lt_of_cell? _ _ qb0
  clear hb
  have hB13 : Below w.heap.size w w13 := Below.on' hB12 hb13
  have z13 : w12.heap.size + 0 ≤ w13.heap.size := by have hz2 := hb13.size; omega
  replace hTa1 := hTa1.below hb13
  replace hTa2 := hTa2.below hb13
  replace hTb1 := hTb1.below hb13
  replace hTb2 := hTb2.below hb13
  have hTt := hU.mono (lo' := w12.heap.size) (hi' := w13.heap.size) (by first | exact Nat.le_refl _ | (simp; done) | (simp; omega)) (Nat.le_refl _) (Nat.le_refl _)
  clear hU
  go_wp2_with fail
  refine (StartEnds_impl (some ⟨gt, 0, none⟩) l.length l _ hl'l hm'l hTt.all).mono ?_
  rintro e w14 ⟨Ah1, ch1, Ah2, ch2, mh, rfl, hTh1, hTh2, ih, jh, hb⟩
  have hb14 : Below w13.heap.size w13 w14 := Below.on' (by go_grown) hb
  replace qa0 : w14.cell? ⟨w3.heap.size, 0, none⟩ = some (.slice Aa1 ((seT l).1.1).length ca1) := keep hb (by first | assumption | exact lay _ ‹_› | exact lay _ (lay _ ‹_›) | (simp; done) | exact lay _ (by simp) | (simp [*]; done))
  replace qa1 : w14.cell? ⟨w3.heap.size, 1, none⟩ = some (.slice Aa2 ((seT l).1.2).length ca2) := keep hb (by first | assumption | exact lay _ ‹_› | exact lay _ (lay _ ‹_›) | (simp; done) | exact lay _ (by simp) | (simp [*]; done))
  replace qa2 : w14.cell? ⟨w3.heap.size, 2, none⟩ = some (.slice none 0 0) := keep hb (by first | assumption | exact lay _ ‹_› | exact lay _ (lay _ ‹_›) | (simp; done) | exact lay _ (by simp) | (simp [*]; done))
  replace qa3 : w14.cell? ⟨w3.heap.size, 3, none⟩ = some (.slice none 0 0) := keep hb (by first | assumption | exact lay _ ‹_› | exact lay _ (lay _ ‹_›) | (simp; done) | exact lay _ (by simp) | (simp [*]; done))
  replace qa4 : w14.cell? ⟨w3.heap.size, 4, none⟩ = some (.slice none 0 0) := keep hb (by first | assumption | exact lay _ ‹_› | exact lay _ (lay _ ‹_›) | (simp; done) | exact lay _ (by simp) | (simp [*]; done))
  replace ka : w3.heap.size < w14.heap.size := World.block_lt_of_cell? _ _ qa0
  replace qb0 : w14.cell? ⟨w5.heap.size, 0, none⟩ = some (.slice Ab1 ((seT l).1.1).length cb1) := keep hb (by first | assumption | exact lay _ ‹_› | exact lay _ (lay _ ‹_›) | (simp; done) | exact lay _ (by simp) | (simp [*]; done))
  replace qb1 : w14.cell? ⟨w5.heap.size, 1, none⟩ = some (.slice Ab2 ((seT l).1.2).length cb2) := keep hb (by first | assumption | exact lay _ ‹_› | exact lay _ (lay _ ‹_›) | (simp; done) | exact lay _ (by simp) | (simp [*]; done))
  replace qb2 : w14.cell? ⟨w5.heap.size, 2, none⟩ = some (.slice none 0 0) := keep hb (by first | assumption | exact lay _ ‹_› | exact lay _ (lay _ ‹_›) | (simp; done) | exact lay _ (by simp) | (simp [*]; done))
  replace qb3 : w14.cell? ⟨w5.heap.size, 3, none⟩ = some (.slice none 0 0) := keep hb (by first | assumption | exact lay _ ‹_› | exact lay _ (lay _ ‹_›) | (simp; done) | exact lay _ (by simp) | (simp [*]; done))
  replace qb4 : w14.cell? ⟨w5.heap.size, 4, none⟩ = some (.slice none 0 0) := keep hb (by first | assumption | exact lay _ ‹_› | exact lay _ (lay _ ‹_›) | (simp; done) | exact lay _ (by simp) | (simp [*]; done))
  replace kb : w5.heap.size < w14.heap.size := World.block_lt_of_cell? _ _ qb0
  clear hb
  have hB14 : Below w.heap.size w w14 := Below.on' hB13 hb14
  have z14 : w13.heap.size + 0 ≤ w14.heap.size := by have hz2 := hb14.size; omega
  replace hTa1 := hTa1.below hb14
  replace hTa2 := hTa2.below hb14
  replace hTb1 := hTb1.below hb14
  replace hTb2 := hTb2.below hb14
  replace hTt := hTt.below hb14
  have vh : w13.heap.size ≤ mh := by have h := ih; first | omega | (simp at h; omega)
  replace hTh1 := hTh1.mono (lo' := w13.heap.size) (hi' := mh) (by first | exact Nat.le_refl _ | (simp; done) | (simp; omega)) (Nat.le_refl _) jh
  clear hTt
  go_wp2_with fail
  refine (eqEnds_same _ _ _ _ _ _ _ _ _ _ _ _ _ _ _ _ _ _ none none 0 0 [] 0 0 0 0 none none 0 0 [] 0 0 0 0 none none 0 0 [] 0 0 0 0 _ hLR1 (hTh1.alloc _) (hTa1.alloc _) hLR2 (hTh2.alloc _) (hTa2.alloc _) (by simp) Sl.nil_ Sl.nil_ (by simp) Sl.nil_ Sl.nil_ (by simp) Sl.nil_ Sl.nil_).mono ?_
  rintro e w15 ⟨rfl, hb⟩
  have hb15 : Below w14.heap.size w14 w15 := Below.on' (by go_grown) hb
  replace qa0 : w15.cell? ⟨w3.heap.size, 0, none⟩ = some (.slice Aa1 ((seT l).1.1).length ca1) := keep hb (by first | assumption | exact lay _ ‹_› | exact lay _ (lay _ ‹_›) | (simp; done) | exact lay _ (by simp) | (simp [*]; done))
  replace qa1 : w15.cell? ⟨w3.heap.size, 1, none⟩ = some (.slice Aa2 ((seT l).1.2).length ca2) := keep hb (by first | assumption | exact lay _ ‹_› | exact lay _ (lay _ ‹_›) | (simp; done) | exact lay _ (by simp) | (simp [*]; done))
  replace qa2 : w15.cell? ⟨w3.heap.size, 2, none⟩ = some (.slice none 0 0) := keep hb (by first | assumption | exact lay _ ‹_› | exact lay _ (lay _ ‹_›) | (simp; done) | exact lay _ (by simp) | (simp [*]; done))
  replace qa3 : w15.cell? ⟨w3.heap.size, 3, none⟩ = some (.slice none 0 0) := keep hb (by first | assumption | exact lay _ ‹_› | exact lay _ (lay _ ‹_›) | (simp; done) | exact lay _ (by simp) | (simp [*]; done))
  replace qa4 : w15.cell? ⟨w3.heap.size, 4, none⟩ = some (.slice none 0 0) := keep hb (by first | assumption | exact lay _ ‹_› | exact lay _ (lay _ ‹_›) | (simp; done) | exact lay _ (by simp) | (simp [*]; done))
  replace ka : w3.heap.size < w15.heap.size := World.block_lt_of_cell? _ _ qa0
  replace qb0 : w15.cell? ⟨w5.heap.size, 0, none⟩ = some (.slice Ab1 ((seT l).1.1).length cb1) := keep hb (by first | assumption | exact lay _ ‹_› | exact lay _ (lay _ ‹_›) | (simp; done) | exact lay _ (by simp) | (simp [*]; done))
  replace qb1 : w15.cell? ⟨w5.heap.size, 1, none⟩ = some (.slice Ab2 ((seT l).1.2).length cb2) := keep hb (by first | assumption | exact lay _ ‹_› | exact lay _ (lay _ ‹_›) | (simp; done) | exact lay _ (by simp) | (simp [*]; done))
  replace qb2 : w15.cell? ⟨w5.heap.size, 2, none⟩ = some (.slice none 0 0) := keep hb (by first | assumption | exact lay _ ‹_› | exact lay _ (lay _ ‹_›) | (simp; done) | exact lay _ (by simp) | (simp [*]; done))
  replace qb3 : w15.cell? ⟨w5.heap.size, 3, none⟩ = some (.slice none 0 0) := keep hb (by first | assumption | exact lay _ ‹_› | exact lay _ (lay _ ‹_›) | (simp; done) | exact lay _ (by simp) | (simp [*]; done))
  replace qb4 : w15.cell? ⟨w5.heap.size, 4, none⟩ = some (.slice none 0 0) := keep hb (by first | assumption | exact lay _ ‹_› | exact lay _ (lay _ ‹_›) | (simp; done) | exact lay _ (by simp) | (simp [*]; done))
  replace kb : w5.heap.size < w15.heap.size := World.block_lt_of_cell? _ _ qb0
  have qh0 : w15.cell? ⟨w14.heap.size, 0, none⟩ = some (.slice Ah1 ((seT l).1.1).length ch1) := keep hb (by first | assumption | exact lay _ ‹_› | exact lay _ (lay _ ‹_›) | (simp; done) | exact lay _ (by simp) | (simp [*]; done))
  have qh1 : w15.cell? ⟨w14.heap.size, 1, none⟩ = some (.slice Ah2 ((seT l).1.2).length ch2) := keep hb (by first | assumption | exact lay _ ‹_› | exact lay _ (lay _ ‹_›) | (simp; done) | exact lay _ (by simp) | (simp [*]; done))
  have qh2 : w15.cell? ⟨w14.heap.size, 2, none⟩ = some (.slice none 0 0) := keep hb (by first | assumption | exact lay _ ‹_› | exact lay _ (lay _ ‹_›) | (simp; done) | exact lay _ (by simp) | (simp [*]; done))
  have qh3 : w15.cell? ⟨w14.heap.size, 3, none⟩ = some (.slice none 0 0) := keep hb (by first | assumption | exact lay _ ‹_› | exact lay _ (lay _ ‹_›) | (simp; done) | exact lay _ (by simp) | (simp [*]; done))
  have qh4 : w15.cell? ⟨w14.heap.size, 4, none⟩ = some (.slice none 0 0) := keep hb (by first | assumption | exact lay _ ‹_› | exact lay _ (lay _ ‹_›) | (simp; done) | exact lay _ (by simp) | (simp [*]; done))
  have kh : w14.heap.size < w15.heap.size := World.block_lt_of_cell? _ _ qh0
  clear hb
  have hB15 : Below w.heap.size w w15 := Below.on' hB14 hb15
  have z15 : w14.heap.size + 1 ≤ w15.heap.size := by have hz := World.block_lt_of_cell? _ _ qh0; have hz2 := hb15.size; simp only at hz; omega
  replace hTa1 := hTa1.below hb15
  replace hTa2 := hTa2.below hb15
  replace hTb1 := hTb1.below hb15
  replace hTb2 := hTb2.below hb15
  replace hTh1 := hTh1.below hb15
  replace hTh2 := hTh2.below hb15
  clear hTh1
  clear hTh2
  clear hTa1
  clear hTa2
  go_wp2_with fail
  refine (heldEnds_any _ _ _ _ _ _ _ _ _ _ none 0 0 0 0 none 0 0 0 0 none 0 0 0 0 _ _ hLR1 hTb1 hLR2 hTb2 (by simp) Sl.nil_ (by simp) Sl.nil_ (by simp) Sl.nil_ (by omega) (by omega)).mono ?_
  rintro e w16 ⟨rfl, hb⟩
  have hb16 : Below w15.heap.size w15 w16 := Below.on' (by go_grown) hb
  replace qa0 : w16.cell? ⟨w3.heap.size, 0, none⟩ = some (.slice Aa1 ((seT l).1.1).length ca1) := keep hb (by first | assumption | exact lay _ ‹_› | exact lay _ (lay _ ‹_›) | (simp; done) | exact lay _ (by simp) | (simp [*]; done))
  replace qa1 : w16.cell? ⟨w3.heap.size, 1, none⟩ = some (.slice Aa2 ((seT l).1.2).length ca2) := keep hb (by first | assumption | exact lay _ ‹_› | exact lay _ (lay _ ‹_›) | (simp; done) | exact lay _ (by simp) | (simp [*]; done))
  replace qa2 : w16.cell? ⟨w3.heap.size, 2, none⟩ = some (.slice none 0 0) := keep hb (by first | assumption | exact lay _ ‹_› | exact lay _ (lay _ ‹_›) | (simp; done) | exact lay _ (by simp) | (simp [*]; done))
  replace qa3 : w16.cell? ⟨w3.heap.size, 3, none⟩ = some (.slice none 0 0) := keep hb (by first | assumption | exact lay _ ‹_› | exact lay _ (lay _ ‹_›) | (simp; done) | exact lay _ (by simp) | (simp [*]; done))
  replace qa4 : w16.cell? ⟨w3.heap.size, 4, none⟩ = some (.slice none 0 0) := keep hb (by first | assumption | exact lay _ ‹_› | exact lay _ (lay _ ‹_›) | (simp; done) | exact lay _ (by simp) | (simp [*]; done))
  replace ka : w3.heap.size < w16.heap.size := World.block_lt_of_cell? _ _ qa0
  replace qb0 : w16.cell? ⟨w5.heap.size, 0, none⟩ = some (.slice Ab1 ((seT l).1.1).length cb1) := keep hb (by first | assumption | exact lay _ ‹_› | exact lay _ (lay _ ‹_›) | (simp; done) | exact lay _ (by simp) | (simp [*]; done))
  replace qb1 : w16.cell? ⟨w5.heap.size, 1, none⟩ = some (.slice Ab2 ((seT l).1.2).length cb2) := keep hb (by first | assumption | exact lay _ ‹_› | exact lay _ (lay _ ‹_›) | (simp; done) | exact lay _ (by simp) | (simp [*]; done))
  replace qb2 : w16.cell? ⟨w5.heap.size, 2, none⟩ = some (.slice none 0 0) := keep hb (by first | assumption | exact lay _ ‹_› | exact lay _ (lay _ ‹_›) | (simp; done) | exact lay _ (by simp) | (simp [*]; done))
  replace qb3 : w16.cell? ⟨w5.heap.size, 3, none⟩ = some (.slice none 0 0) := keep hb (by first | assumption | exact lay _ ‹_› | exact lay _ (lay _ ‹_›) | (simp; done) | exact lay _ (by simp) | (simp [*]; done))
  replace qb4 : w16.cell? ⟨w5.heap.size, 4, none⟩ = some (.slice none 0 0) := keep hb (by first | assumption | exact lay _ ‹_› | exact lay _ (lay _ ‹_›) | (simp; done) | exact lay _ (by simp) | (simp [*]; done))
  replace kb : w5.heap.size < w16.heap.size := World.block_lt_of_cell? _ _ qb0
  replace qh0 : w16.cell? ⟨w14.heap.size, 0, none⟩ = some (.slice Ah1 ((seT l).1.1).length ch1) := keep hb (by first | assumption | exact lay _ ‹_› | exact lay _ (lay _ ‹_›) | (simp; done) | exact lay _ (by simp) | (simp [*]; done))
  replace qh1 : w16.cell? ⟨w14.heap.size, 1, none⟩ = some (.slice Ah2 ((seT l).1.2).length ch2) := keep hb (by first | assumption | exact lay _ ‹_› | exact lay _ (lay _ ‹_›) | (simp; done) | exact lay _ (by simp) | (simp [*]; done))
  replace qh2 : w16.cell? ⟨w14.heap.size, 2, none⟩ = some (.slice none 0 0) := keep hb (by first | assumption | exact lay _ ‹_› | exact lay _ (lay _ ‹_›) | (simp; done) | exact lay _ (by simp) | (simp [*]; done))
  replace qh3 : w16.cell? ⟨w14.heap.size, 3, none⟩ = some (.slice none 0 0) := keep hb (by first | assumption | exact lay _ ‹_› | exact lay _ (lay _ ‹_›) | (simp; done) | exact lay _ (by simp) | (simp [*]; done))
  replace qh4 : w16.cell? ⟨w14.heap.size, 4, none⟩ = some (.slice none 0 0) := keep hb (by first | assumption | exact lay _ ‹_› | exact lay _ (lay _ ‹_›) | (simp; done) | exact lay _ (by simp) | (simp [*]; done))
  replace kh : w14.heap.size < w16.heap.size := World.block_lt_of_cell? _ _ qh0
  clear hb
  have hB16 : Below w.heap.size w w16 := Below.on' hB15 hb16
  have z16 : w15.heap.size + 0 ≤ w16.heap.size := by have hz2 := hb16.size; omega
  replace hTb1 := hTb1.below hb16
  replace hTb2 := hTb2.below hb16
  go_wp2_with fail
  go_ret
  exact ⟨rfl, hB16⟩

set_option maxRecDepth 100000 in
theorem lifted (os : Os) (started : os.Started) (H : Type) (enc : TypeId × Value → H) :
    ReturnsInHanded {} Try.checked os 9 .any (Rows.fnExactStartEndsSpec.pre6 enc Try.prog Try.f9 Rows.fnExactStartEndsRow.domain false) (Rows.fnExactStartEndsSpec.post enc Try.prog Try.f9 false true false false) := by
  refine law_lifted (C := Try.checked) own started (by kernel_rfl) Try.func9
    (ChangeSpec.witness6 (enc := enc) (C := Try.checked) false ⟨#[], #[.slice none 0 0], []⟩ 8 (by kernel_rfl) (by kernel_rfl) (by kernel_rfl) (by kernel_rfl))
    laidOut 4 (by kernel_rfl) Try.underlying4 (by kernel_rfl) rfl ?_ ?_
  · intro ds hds
    have hn : Try.f9.params.size = 1 := by kernel_rfl
    rw [hn] at hds
    match ds, hds with
    | [d0], _ => rfl
  intro W base args ds p hval0 hA0 hlt hnf hsh
  have hval : ∀ (j : Nat) t v, Try.f9.params[j]? = some t → args[j]? = some v → Value.okWide Try.prog W .any base t v := hval0
  have hA : DataW.TrodAll enc Try.prog W 0 (fun _ => true) true Try.f9.params.toList args.toList ds p := hA0
  clear hval0 hA0
  rw [Try.params9] at hA hval
  obtain ⟨v0, vs0, d0, ds0, p0, q0, hargs, rfl, rfl, h0, r0⟩ := trodAll_cons hA
  obtain ⟨rfl, rfl, rfl⟩ := trodAll_nil r0
  obtain rfl : args = #[v0] := by cases args; simp_all
  obtain ⟨Al, cl, l, rfl, hll, hml, hSl⟩ := App.openedS (hval 0 57 v0 rfl rfl) h0 (fun x hx => hlt x (by simp [hx])) (fun b o h => hnf b o (by simp [h]))
  exact walk Al cl l hll hml W hSl

theorem over : Rows.fnExactStartEndsRow.holds Try.pinned (OpenSpec.ofChange Rows.fnExactStartEndsSpec) :=
  OpenClaim.holds_of_wide 9 Try.f9 rfl rfl rfl rfl rfl rfl rfl ⟨rfl, rfl, rfl, rfl, rfl⟩ rfl rfl rfl rfl rfl (by kernel_rfl) Try.func9 (by kernel_rfl)
    (of_decide_eq_true (by kernel_rfl)) (by unfold Func.isWrapper; first | (rw [if_pos (by decide +kernel)]; kernel_rfl) | (rw [if_neg (by decide +kernel)]; exact ⟨rfl, rfl⟩))
    (fun os started H enc _ => lifted os started H enc)

theorem proved : Rows.FnExactStartEndsSaid :=
  over
#print axioms proved
end Go.Proofs.Ytpfopmlbnogilaa.lawStartEnds

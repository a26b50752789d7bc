/- FnExactInOrder: the program's InOrder returns what the reference's returns, for all arguments. No conditions. -/
import Derived.Test.YtpfopmlbnogilaaChanO
import Derived.Test.YtpfopmlbnogilaaStrs
import Derived.Test.YtpfopmlbnogilaaChanArg
import Derived.Test.YtpfopmlbnogilaaRow
import Derived.Test.YtpfopmlbnogilaaReg
import Derived.ChangeMaps5
namespace Go.Proofs.Ytpfopmlbnogilaa.lawInOrder
open Go.ChangeShapes Go.WideShapes Go.ChangeAt Go.RowKit Go.Joins Go.Proofs.Ytpfopmlbnogilaa

set_option maxRecDepth 100000 in
set_option maxHeartbeats 16000000 in
theorem walk (As : Option Addr) (cs : Nat) (s : List Msg) (Ar : Option Addr) (cr : Nat) (r : List Msg) (Ah : Option Addr) (ch : Nat) (h : List Msg) (hls : s.length ≤ maxLen) (hms : ∀ y ∈ s, y.f.size ≤ maxLen ∧ y.b.size ≤ maxLen) (hlr : r.length ≤ maxLen) (hmr : ∀ y ∈ r, y.f.size ≤ maxLen ∧ y.b.size ≤ maxLen) (hlh : h.length ≤ maxLen) (hmh : ∀ y ∈ h, y.f.size ≤ maxLen ∧ y.b.size ≤ maxLen) (f : ByteArray) (_hf : f.size ≤ maxLen) (w : World) (hSs : Msgs w 0 w.heap.size As s) (hSr : Msgs w 0 w.heap.size Ar r) (hSh : Msgs w 0 w.heap.size Ah h) : Calls Try.prog 3 #[.agg #[.slice As s.length cs, .slice Ar r.length cr, .slice Ah h.length ch], .string f] w fun e w' => e = .returned (.bool true) ∧ Below w.heap.size w w' := by
  go_enter Try.func3, Try.ntmps3
  by_cases hbigf : 1048576 < f.size
  · have hbig' : (1048576 : Int) < f.size := by omega
    go_wp2
    go_ret
    exact ⟨rfl, by go_grown⟩
  have hs'f : f.size ≤ 1048576 := by omega
  have hs''f : (f.size : Int) ≤ 1048576 := by omega
  clear hbigf
  go_wp2_with fail
  refine (szChannel_any As cs s Ar cr r Ah ch h _ _ hls hms (hSs.alloc _).all hlr hmr (hSr.alloc _).all hlh hmh (hSh.alloc _).all (by omega) (by omega)).mono ?_
  rintro e w1 ⟨q0, rfl, hq0, hrest, hb⟩
  have hb1 : Below w.heap.size w w1 := Below.on' (by go_grown) hb
  have qp0 : w1.cell? ⟨w.heap.size, 0, none⟩ = some (.slice As s.length cs) := keep hb (by first | assumption | exact lay _ ‹_› | exact lay _ (lay _ ‹_›) | (simp; done) | exact lay _ (by simp) | (simp [*]; done))
  have qp1 : w1.cell? ⟨w.heap.size, 1, none⟩ = some (.slice Ar r.length cr) := keep hb (by first | assumption | exact lay _ ‹_› | exact lay _ (lay _ ‹_›) | (simp; done) | exact lay _ (by simp) | (simp [*]; done))
  have qp2 : w1.cell? ⟨w.heap.size, 2, none⟩ = some (.slice Ah h.length ch) := keep hb (by first | assumption | exact lay _ ‹_› | exact lay _ (lay _ ‹_›) | (simp; done) | exact lay _ (by simp) | (simp [*]; done))
  have kp : w.heap.size < w1.heap.size := World.block_lt_of_cell? _ _ qp0
  clear hb
  have hB1 : Below w.heap.size w w1 := hb1
  have z1 : w.heap.size + 1 ≤ w1.heap.size := by have hz := World.block_lt_of_cell? _ _ qp0; have hz2 := hb1.size; simp only at hz; omega
  by_cases h0q : q0 < 0
  · go_wp2
    go_ret
    exact ⟨rfl, hB1⟩
  obtain ⟨⟨hl's, hm's⟩, ⟨hl'r, hm'r⟩, ⟨hl'h, hm'h⟩⟩ := hrest (by omega)
  clear hrest
  have hLR1 : (ordT s r h f).1.length ≤ 1048576 := ordT_len
  go_wp2_with fail
  refine (toChannel_any As cs s Ar cr r Ah ch h _ hl's (hSs.below hB1).all hl'r (hSr.below hB1).all hl'h (hSh.below hB1).all).mono ?_
  rintro e w2 ⟨gt1, gt2, gt3, mt1, mt2, rfl, hz1t, hz2t, hz3t, hU1, hU2, hU3, hb⟩
  have hb2 : Below w1.heap.size w1 w2 := Below.on' (by go_grown) hb
  replace qp0 : w2.cell? ⟨w.heap.size, 0, none⟩ = some (.slice As s.length cs) := keep hb (by first | assumption | exact lay _ ‹_› | exact lay _ (lay _ ‹_›) | (simp; done) | exact lay _ (by simp) | (simp [*]; done))
  replace qp1 : w2.cell? ⟨w.heap.size, 1, none⟩ = some (.slice Ar r.length cr) := keep hb (by first | assumption | exact lay _ ‹_› | exact lay _ (lay _ ‹_›) | (simp; done) | exact lay _ (by simp) | (simp [*]; done))
  replace qp2 : w2.cell? ⟨w.heap.size, 2, none⟩ = some (.slice Ah h.length ch) := keep hb (by first | assumption | exact lay _ ‹_› | exact lay _ (lay _ ‹_›) | (simp; done) | exact lay _ (by simp) | (simp [*]; done))
  replace kp : w.heap.size < w2.heap.size := World.block_lt_of_cell? _ _ qp0
  clear hb
  have hB2 : Below w.heap.size w w2 := Below.on' hB1 hb2
  have z2 : w1.heap.size + 0 ≤ w2.heap.size := by have hz2 := hb2.size; omega
  have zzt : w1.heap.size ≤ mt1 := by have h := hz1t; first | omega | (simp at h; omega)
  have hTt1 := hU1.mono (lo' := w1.heap.size) (hi' := mt1) (by first | exact Nat.le_refl _ | (simp; done) | (simp; omega)) (Nat.le_refl _) (by omega)
  have hTt2 := hU2
  have hTt3 := hU3
  clear hU1 hU2 hU3
  go_wp2_with fail
  refine (InOrder_spec (some ⟨gt1, 0, none⟩) s.length s (some ⟨gt2, 0, none⟩) r.length r (some ⟨gt3, 0, none⟩) h.length h f _ hl's hm's hTt1.all (Nat.le_refl _) hl'r hm'r hTt2.all (Nat.le_refl _) hl'h hm'h hTt3.all (Nat.le_refl _) hs'f).mono ?_
  rintro e w3 ⟨Aa1, ca1, rfl, hU, hcc, hb⟩
  have hb3 : Below w2.heap.size w2 w3 := Below.on' (by go_grown) hb
  replace qp0 : w3.cell? ⟨w.heap.size, 0, none⟩ = some (.slice As s.length cs) := keep hb (by first | assumption | exact lay _ ‹_› | exact lay _ (lay _ ‹_›) | (simp; done) | exact lay _ (by simp) | (simp [*]; done))
  replace qp1 : w3.cell? ⟨w.heap.size, 1, none⟩ = some (.slice Ar r.length cr) := keep hb (by first | assumption | exact lay _ ‹_› | exact lay _ (lay _ ‹_›) | (simp; done) | exact lay _ (by simp) | (simp [*]; done))
  replace qp2 : w3.cell? ⟨w.heap.size, 2, none⟩ = some (.slice Ah h.length ch) := keep hb (by first | assumption | exact lay _ ‹_› | exact lay _ (lay _ ‹_›) | (simp; done) | exact lay _ (by simp) | (simp [*]; done))
  replace kp : w.heap.size < w3.heap.size := World.block_lt_of_cell? _ _ qp0
  clear hb
  have hB3 : Below w.heap.size w w3 := Below.on' hB2 hb3
  have z3 : w2.heap.size + 0 ≤ w3.heap.size := by have hz2 := hb3.size; omega
  replace hTt1 := hTt1.below hb3
  replace hTt2 := hTt2.below hb3
  replace hTt3 := hTt3.below hb3
  have hTa1 := hU.mono (lo' := w2.heap.size) (hi' := w3.heap.size) (by first | exact Nat.le_refl _ | (simp; done) | (simp; omega)) (Nat.le_refl _) (by first | exact Nat.le_refl _ | omega)
  clear hU hcc
  clear hTt1
  clear hTt2
  clear hTt3
  go_wp2_with fail
  refine (toChannel_any As cs s Ar cr r Ah ch h _ hl's (hSs.below hB3).all hl'r (hSr.below hB3).all hl'h (hSh.below hB3).all).mono ?_
  rintro e w4 ⟨gx1, gx2, gx3, mx1, mx2, rfl, hz1x, hz2x, hz3x, hU1, hU2, hU3, hb⟩
  have hb4 : Below w3.heap.size w3 w4 := Below.on' (by go_grown) hb
  replace qp0 : w4.cell? ⟨w.heap.size, 0, none⟩ = some (.slice As s.length cs) := keep hb (by first | assumption | exact lay _ ‹_› | exact lay _ (lay _ ‹_›) | (simp; done) | exact lay _ (by simp) | (simp [*]; done))
  replace qp1 : w4.cell? ⟨w.heap.size, 1, none⟩ = some (.slice Ar r.length cr) := keep hb (by first | assumption | exact lay _ ‹_› | exact lay _ (lay _ ‹_›) | (simp; done) | exact lay _ (by simp) | (simp [*]; done))
  replace qp2 : w4.cell? ⟨w.heap.size, 2, none⟩ = some (.slice Ah h.length ch) := keep hb (by first | assumption | exact lay _ ‹_› | exact lay _ (lay _ ‹_›) | (simp; done) | exact lay _ (by simp) | (simp [*]; done))
  replace kp : w.heap.size < w4.heap.size := World.block_lt_of_cell? _ _ qp0
  clear hb
  have hB4 : Below w.heap.size w w4 := Below.on' hB3 hb4
  have z4 : w3.heap.size + 0 ≤ w4.heap.size := by have hz2 := hb4.size; omega
  replace hTa1 := hTa1.below hb4
  have zzx : w3.heap.size ≤ mx1 := by have h := hz1x; first | omega | (simp at h; omega)
  have hTx1 := hU1.mono (lo' := w3.heap.size) (hi' := mx1) (by first | exact Nat.le_refl _ | (simp; done) | (simp; omega)) (Nat.le_refl _) (by omega)
  have hTx2 := hU2
  have hTx3 := hU3
  clear hU1 hU2 hU3
  go_wp2_with fail
  refine (InOrder_impl (some ⟨gx1, 0, none⟩) s.length s (some ⟨gx2, 0, none⟩) r.length r (some ⟨gx3, 0, none⟩) h.length h f _ hl's hm's (hTx1.alloc _).all (Nat.le_refl _) hl'r hm'r (hTx2.alloc _).all (Nat.le_refl _) hl'h hm'h (hTx3.alloc _).all (Nat.le_refl _) hs'f).mono ?_
  rintro e w5 ⟨Ab1, cb1, rfl, hU, hcc, hb⟩
  have hb5 : Below w4.heap.size w4 w5 := Below.on' (by go_grown) hb
  replace qp0 : w5.cell? ⟨w.heap.size, 0, none⟩ = some (.slice As s.length cs) := keep hb (by first | assumption | exact lay _ ‹_› | exact lay _ (lay _ ‹_›) | (simp; done) | exact lay _ (by simp) | (simp [*]; done))
  replace qp1 : w5.cell? ⟨w.heap.size, 1, none⟩ = some (.slice Ar r.length cr) := keep hb (by first | assumption | exact lay _ ‹_› | exact lay _ (lay _ ‹_›) | (simp; done) | exact lay _ (by simp) | (simp [*]; done))
  replace qp2 : w5.cell? ⟨w.heap.size, 2, none⟩ = some (.slice Ah h.length ch) := keep hb (by first | assumption | exact lay _ ‹_› | exact lay _ (lay _ ‹_›) | (simp; done) | exact lay _ (by simp) | (simp [*]; done))
  replace kp : w.heap.size < w5.heap.size := World.block_lt_of_cell? _ _ qp0
  have qx0 : w5.cell? ⟨w4.heap.size, 0, none⟩ = some (.slice (some ⟨gx1, 0, none⟩) s.length s.length) := keep hb (by first | assumption | exact lay _ ‹_› | exact lay _ (lay _ ‹_›) | (simp; done) | exact lay _ (by simp) | (simp [*]; done))
  have qx1 : w5.cell? ⟨w4.heap.size, 1, none⟩ = some (.slice (some ⟨gx2, 0, none⟩) r.length r.length) := keep hb (by first | assumption | exact lay _ ‹_› | exact lay _ (lay _ ‹_›) | (simp; done) | exact lay _ (by simp) | (simp [*]; done))
  have qx2 : w5.cell? ⟨w4.heap.size, 2, none⟩ = some (.slice (some ⟨gx3, 0, none⟩) h.length h.length) := keep hb (by first | assumption | exact lay _ ‹_› | exact lay _ (lay _ ‹_›) | (simp; done) | exact lay _ (by simp) | (simp [*]; done))
  have kx : w4.heap.size < w5.heap.size := World.block_lt_of_cell? _ _ qx0
  clear hb
  have hB5 : Below w.heap.size w w5 := Below.on' hB4 hb5
  have z5 : w4.heap.size + 1 ≤ w5.heap.size := by have hz := World.block_lt_of_cell? _ _ qx0; have hz2 := hb5.size; simp only at hz; omega
  replace hTa1 := hTa1.below hb5
  replace hTx1 := hTx1.below hb5
  replace hTx2 := hTx2.below hb5
  replace hTx3 := hTx3.below hb5
  have hTb1 := hU.mono (lo' := w4.heap.size + 1) (hi' := w5.heap.size) (by first | exact Nat.le_refl _ | (simp; done) | (simp; omega)) (Nat.le_refl _) (by first | exact Nat.le_refl _ | omega)
  clear hU hcc
  go_wp2_with fail
  refine (eqStringS_same _ _ _ _ _ _ _ _ _ _ hLR1 hTb1 hTa1).mono ?_
  rintro e w6 ⟨rfl, hb⟩
  have hb6 : Below w5.heap.size w5 w6 := Below.on' (by go_grown) hb
  replace qp0 : w6.cell? ⟨w.heap.size, 0, none⟩ = some (.slice As s.length cs) := keep hb (by first | assumption | exact lay _ ‹_› | exact lay _ (lay _ ‹_›) | (simp; done) | exact lay _ (by simp) | (simp [*]; done))
  replace qp1 : w6.cell? ⟨w.heap.size, 1, none⟩ = some (.slice Ar r.length cr) := keep hb (by first | assumption | exact lay _ ‹_› | exact lay _ (lay _ ‹_›) | (simp; done) | exact lay _ (by simp) | (simp [*]; done))
  replace qp2 : w6.cell? ⟨w.heap.size, 2, none⟩ = some (.slice Ah h.length ch) := keep hb (by first | assumption | exact lay _ ‹_› | exact lay _ (lay _ ‹_›) | (simp; done) | exact lay _ (by simp) | (simp [*]; done))
  replace kp : w.heap.size < w6.heap.size := World.block_lt_of_cell? _ _ qp0
  replace qx0 : w6.cell? ⟨w4.heap.size, 0, none⟩ = some (.slice (some ⟨gx1, 0, none⟩) s.length s.length) := keep hb (by first | assumption | exact lay _ ‹_› | exact lay _ (lay _ ‹_›) | (simp; done) | exact lay _ (by simp) | (simp [*]; done))
  replace qx1 : w6.cell? ⟨w4.heap.size, 1, none⟩ = some (.slice (some ⟨gx2, 0, none⟩) r.length r.length) := keep hb (by first | assumption | exact lay _ ‹_› | exact lay _ (lay _ ‹_›) | (simp; done) | exact lay _ (by simp) | (simp [*]; done))
  replace qx2 : w6.cell? ⟨w4.heap.size, 2, none⟩ = some (.slice (some ⟨gx3, 0, none⟩) h.length h.length) := keep hb (by first | assumption | exact lay _ ‹_› | exact lay _ (lay _ ‹_›) | (simp; done) | exact lay _ (by simp) | (simp [*]; done))
  replace kx : w4.heap.size < w6.heap.size := World.block_lt_of_cell? _ _ qx0
  clear hb
  have hB6 : Below w.heap.size w w6 := Below.on' hB5 hb6
  have z6 : w5.heap.size + 0 ≤ w6.heap.size := by have hz2 := hb6.size; omega
  replace hTa1 := hTa1.below hb6
  replace hTx1 := hTx1.below hb6
  replace hTx2 := hTx2.below hb6
  replace hTx3 := hTx3.below hb6
  replace hTb1 := hTb1.below hb6
  go_wp2_with fail
  refine wp_region_held_drew (S := fun w' => (w'.cell? ⟨w4.heap.size, 0, none⟩ = some (.slice (some ⟨gx1, 0, none⟩) s.length s.length) ∧ w'.cell? ⟨w4.heap.size, 1, none⟩ = some (.slice (some ⟨gx2, 0, none⟩) r.length r.length) ∧ w'.cell? ⟨w4.heap.size, 2, none⟩ = some (.slice (some ⟨gx3, 0, none⟩) h.length h.length)) ∧ (w'.cell? ⟨w.heap.size, 0, none⟩ = some (.slice As s.length cs) ∧ w'.cell? ⟨w.heap.size, 1, none⟩ = some (.slice Ar r.length cr) ∧ w'.cell? ⟨w.heap.size, 2, none⟩ = some (.slice Ah h.length ch))) (by kernel_rfl) ⟨⟨qx0, qx1, qx2⟩, ⟨qp0, qp1, qp2⟩⟩ (fun hHeld => ?_)
  have hb7 : Below w6.heap.size w6 w6.drew := (Below.refl _ _).drew
  generalize w6.drew = w7 at hb7 hHeld ⊢
  replace qp0 : w7.cell? ⟨w.heap.size, 0, none⟩ = some (.slice As s.length cs) := keep hb7 qp0
  replace qp1 : w7.cell? ⟨w.heap.size, 1, none⟩ = some (.slice Ar r.length cr) := keep hb7 qp1
  replace qp2 : w7.cell? ⟨w.heap.size, 2, none⟩ = some (.slice Ah h.length ch) := keep hb7 qp2
  replace kp : w.heap.size < w7.heap.size := World.block_lt_of_cell? _ _ qp0
  replace qx0 : w7.cell? ⟨w4.heap.size, 0, none⟩ = some (.slice (some ⟨gx1, 0, none⟩) s.length s.length) := keep hb7 qx0
  replace qx1 : w7.cell? ⟨w4.heap.size, 1, none⟩ = some (.slice (some ⟨gx2, 0, none⟩) r.length r.length) := keep hb7 qx1
  replace qx2 : w7.cell? ⟨w4.heap.size, 2, none⟩ = some (.slice (some ⟨gx3, 0, none⟩) h.length h.length) := keep hb7 qx2
  replace kx : w4.heap.size < w7.heap.size := World.block_lt_of_cell? _ _ qx0
  have hB7 : Below w.heap.size w w7 := Below.on' hB6 hb7
  have z7 : w6.heap.size ≤ w7.heap.size := hb7.size
  replace hTa1 := hTa1.below hb7
  replace hTx1 := hTx1.below hb7
  replace hTx2 := hTx2.below hb7
  replace hTx3 := hTx3.below hb7
  replace hTb1 := hTb1.below hb7
  change wpAnyH _ _ _ _ _ 5 #[false, false, false, false, false] _ _
  refine wpAnyH_takeL (i := 0) (v := .agg #[.slice (some ⟨gx1, 0, none⟩) s.length s.length, .slice (some ⟨gx2, 0, none⟩) r.length r.length, .slice (some ⟨gx3, 0, none⟩) h.length h.length]) rfl (by kernel_rfl) (by kernel_rfl) (by kernel_rfl) (fun _ _ _ h => h) (Or.inl ⟨by rfl, fun w' hSw => by obtain ⟨⟨z0, z1, z2⟩, z3, z4, z5⟩ := hSw; go_simp⟩) (by assumption) ?_
  simp only [Act.put, List.setIfInBounds_toArray, List.set_cons_zero, List.set_cons_succ]
  refine wpAnyH_takeL (i := 1) (v := .agg #[.slice As s.length cs, .slice Ar r.length cr, .slice Ah h.length ch]) rfl (by kernel_rfl) (by kernel_rfl) (by kernel_rfl) (fun _ _ _ h => h) (Or.inl ⟨by rfl, fun w' hSw => by obtain ⟨⟨z0, z1, z2⟩, z3, z4, z5⟩ := hSw; go_simp⟩) (by assumption) ?_
  simp only [Act.put, List.setIfInBounds_toArray, List.set_cons_zero, List.set_cons_succ]
  refine wpAnyH_ready (rs := [2]) (by kernel_rfl) (by simp) ?_
  refine AllReadyH.consL rfl (fun K hK => ?_) AllReadyH.nil
  go_simp
  go_at_call 12
  refine (toChannel_any As cs s Ar cr r Ah ch h _ hl's (hSs.below hB7).all hl'r (hSr.below hB7).all hl'h (hSh.below hB7).all).mono ?_
  rintro e w8 ⟨gy1, gy2, gy3, my1, my2, rfl, hz1y, hz2y, hz3y, hU1, hU2, hU3, hb⟩
  have hb8 : Below w7.heap.size w7 w8 := Below.on' (by go_grown) hb
  replace qp0 : w8.cell? ⟨w.heap.size, 0, none⟩ = some (.slice As s.length cs) := keep hb (by first | assumption | exact lay _ ‹_› | exact lay _ (lay _ ‹_›) | (simp; done) | exact lay _ (by simp) | (simp [*]; done))
  replace qp1 : w8.cell? ⟨w.heap.size, 1, none⟩ = some (.slice Ar r.length cr) := keep hb (by first | assumption | exact lay _ ‹_› | exact lay _ (lay _ ‹_›) | (simp; done) | exact lay _ (by simp) | (simp [*]; done))
  replace qp2 : w8.cell? ⟨w.heap.size, 2, none⟩ = some (.slice Ah h.length ch) := keep hb (by first | assumption | exact lay _ ‹_› | exact lay _ (lay _ ‹_›) | (simp; done) | exact lay _ (by simp) | (simp [*]; done))
  replace kp : w.heap.size < w8.heap.size := World.block_lt_of_cell? _ _ qp0
  replace qx0 : w8.cell? ⟨w4.heap.size, 0, none⟩ = some (.slice (some ⟨gx1, 0, none⟩) s.length s.length) := keep hb (by first | assumption | exact lay _ ‹_› | exact lay _ (lay _ ‹_›) | (simp; done) | exact lay _ (by simp) | (simp [*]; done))
  replace qx1 : w8.cell? ⟨w4.heap.size, 1, none⟩ = some (.slice (some ⟨gx2, 0, none⟩) r.length r.length) := keep hb (by first | assumption | exact lay _ ‹_› | exact lay _ (lay _ ‹_›) | (simp; done) | exact lay _ (by simp) | (simp [*]; done))
  replace qx2 : w8.cell? ⟨w4.heap.size, 2, none⟩ = some (.slice (some ⟨gx3, 0, none⟩) h.length h.length) := keep hb (by first | assumption | exact lay _ ‹_› | exact lay _ (lay _ ‹_›) | (simp; done) | exact lay _ (by simp) | (simp [*]; done))
  replace kx : w4.heap.size < w8.heap.size := World.block_lt_of_cell? _ _ qx0
  clear hb
  have hB8 : Below w.heap.size w w8 := Below.on' hB7 hb8
  have z8 : w7.heap.size + 0 ≤ w8.heap.size := by have hz2 := hb8.size; omega
  replace hTa1 := hTa1.below hb8
  replace hTx1 := hTx1.below hb8
  replace hTx2 := hTx2.below hb8
  replace hTx3 := hTx3.below hb8
  replace hTb1 := hTb1.below hb8
  have zzy : w7.heap.size ≤ my1 := by have h := hz1y; first | omega | (simp at h; omega)
  have hTy1 := hU1.mono (lo' := w7.heap.size) (hi' := my1) (by first | exact Nat.le_refl _ | (simp; done) | (simp; omega)) (Nat.le_refl _) (by omega)
  have hTy2 := hU2
  have hTy3 := hU3
  clear hU1 hU2 hU3
  go_simp
  refine hK.out _ _ ⟨⟨qx0, qx1, qx2⟩, ⟨qp0, qp1, qp2⟩⟩ (fun hHeld => ?_)
  clear hK K
  simp only [List.setIfInBounds_toArray, List.set_cons_zero, List.set_cons_succ]
  refine wpAnyH_ready (rs := [3]) (by kernel_rfl) (by simp) ?_
  refine AllReadyH.consL rfl (fun K hK => ?_) AllReadyH.nil
  go_simp
  go_at_call 15
  refine (eqChannel_same _ _ _ _ _ _ _ _ _ _ _ _ _ _ _ _ _ _ _ _ _ _ _ _ _ _ _ _ hl's hTx1 hTy1 hl'r hTx2 hTy2 hl'h hTx3 hTy3).mono ?_
  rintro e w9 ⟨rfl, hb⟩
  have hb9 : Below w8.heap.size w8 w9 := Below.on' (by go_grown) hb
  replace qp0 : w9.cell? ⟨w.heap.size, 0, none⟩ = some (.slice As s.length cs) := keep hb (by first | assumption | exact lay _ ‹_› | exact lay _ (lay _ ‹_›) | (simp; done) | exact lay _ (by simp) | (simp [*]; done))
  replace qp1 : w9.cell? ⟨w.heap.size, 1, none⟩ = some (.slice Ar r.length cr) := keep hb (by first | assumption | exact lay _ ‹_› | exact lay _ (lay _ ‹_›) | (simp; done) | exact lay _ (by simp) | (simp [*]; done))
  replace qp2 : w9.cell? ⟨w.heap.size, 2, none⟩ = some (.slice Ah h.length ch) := keep hb (by first | assumption | exact lay _ ‹_› | exact lay _ (lay _ ‹_›) | (simp; done) | exact lay _ (by simp) | (simp [*]; done))
  replace kp : w.heap.size < w9.heap.size := World.block_lt_of_cell? _ _ qp0
  replace qx0 : w9.cell? ⟨w4.heap.size, 0, none⟩ = some (.slice (some ⟨gx1, 0, none⟩) s.length s.length) := keep hb (by first | assumption | exact lay _ ‹_› | exact lay _ (lay _ ‹_›) | (simp; done) | exact lay _ (by simp) | (simp [*]; done))
  replace qx1 : w9.cell? ⟨w4.heap.size, 1, none⟩ = some (.slice (some ⟨gx2, 0, none⟩) r.length r.length) := keep hb (by first | assumption | exact lay _ ‹_› | exact lay _ (lay _ ‹_›) | (simp; done) | exact lay _ (by simp) | (simp [*]; done))
  replace qx2 : w9.cell? ⟨w4.heap.size, 2, none⟩ = some (.slice (some ⟨gx3, 0, none⟩) h.length h.length) := keep hb (by first | assumption | exact lay _ ‹_› | exact lay _ (lay _ ‹_›) | (simp; done) | exact lay _ (by simp) | (simp [*]; done))
  replace kx : w4.heap.size < w9.heap.size := World.block_lt_of_cell? _ _ qx0
  clear hb
  have hB9 : Below w.heap.size w w9 := Below.on' hB8 hb9
  have z9 : w8.heap.size + 0 ≤ w9.heap.size := by have hz2 := hb9.size; omega
  replace hTa1 := hTa1.below hb9
  replace hTx1 := hTx1.below hb9
  replace hTx2 := hTx2.below hb9
  replace hTx3 := hTx3.below hb9
  replace hTb1 := hTb1.below hb9
  replace hTy1 := hTy1.below hb9
  replace hTy2 := hTy2.below hb9
  replace hTy3 := hTy3.below hb9
  clear hTy1
  clear hTy2
  clear hTy3
  go_simp
  refine hK.out _ _ ⟨⟨qx0, qx1, qx2⟩, ⟨qp0, qp1, qp2⟩⟩ (fun hHeld => ?_)
  clear hK K
  simp only [List.setIfInBounds_toArray, List.set_cons_zero, List.set_cons_succ]
  refine wpAnyH_takeL (i := 4) (v := .bool false) rfl (by kernel_rfl) (by kernel_rfl) (by kernel_rfl) (fun _ _ _ h => h) (Or.inl ⟨by rfl, fun w' hSw => by obtain ⟨⟨z0, z1, z2⟩, z3, z4, z5⟩ := hSw; go_simp⟩) (by assumption) ?_
  simp only [Act.put, List.setIfInBounds_toArray, List.set_cons_zero, List.set_cons_succ]
  refine wpAnyH_done (by kernel_rfl) ?_ _
  go_wp2_with fail
  refine (markChannel_any _ _ _ _ _ _ _ _ _ _ _ _ _ _ _ _ _ hl's hTx1 hl'r hTx2 hl'h hTx3 (by omega) (by omega) (w3.heap.size) (w4.heap.size) (by omega) (by omega) (by omega) (by omega) (by omega) (by omega) (by omega)).mono ?_
  rintro e w10 ⟨rfl, hM1, hM2, hM3, hF⟩
  replace qp0 := (World.cell?_of_block (hF.block _ (World.block_lt_of_cell? _ _ qp0) (by simp only; omega))).trans qp0
  replace qp1 := (World.cell?_of_block (hF.block _ (World.block_lt_of_cell? _ _ qp1) (by simp only; omega))).trans qp1
  replace qp2 := (World.cell?_of_block (hF.block _ (World.block_lt_of_cell? _ _ qp2) (by simp only; omega))).trans qp2
  replace kp : w.heap.size < w10.heap.size := World.block_lt_of_cell? _ _ qp0
  replace qx0 := (World.cell?_of_block (hF.block _ (World.block_lt_of_cell? _ _ qx0) (by simp only; omega))).trans qx0
  replace qx1 := (World.cell?_of_block (hF.block _ (World.block_lt_of_cell? _ _ qx1) (by simp only; omega))).trans qx1
  replace qx2 := (World.cell?_of_block (hF.block _ (World.block_lt_of_cell? _ _ qx2) (by simp only; omega))).trans qx2
  replace kx : w4.heap.size < w10.heap.size := World.block_lt_of_cell? _ _ qx0
  have hB10 : Below w.heap.size w w10 := hB9.trans (hF.below (by omega) (by omega))
  have z10 : w9.heap.size ≤ w10.heap.size := hF.size
  replace hTa1 := hTa1.fr hF (by omega)
  replace hTb1 := hTb1.fr hF (by omega)
  clear hF
  replace hTx1 := hM1
  replace hTx2 := hM2
  replace hTx3 := hM3
  clear hM1 hM2 hM3
  clear hTx1
  clear hTx2
  clear hTx3
  go_wp2_with fail
  refine (eqStringS_same _ _ _ _ _ _ _ _ _ _ hLR1 hTb1 hTa1).mono ?_
  rintro e w11 ⟨rfl, hb⟩
  have hb11 : Below w10.heap.size w10 w11 := Below.on' (by go_grown) hb
  replace qp0 : w11.cell? ⟨w.heap.size, 0, none⟩ = some (.slice As s.length cs) := keep hb (by first | assumption | exact lay _ ‹_› | exact lay _ (lay _ ‹_›) | (simp; done) | exact lay _ (by simp) | (simp [*]; done))
  replace qp1 : w11.cell? ⟨w.heap.size, 1, none⟩ = some (.slice Ar r.length cr) := keep hb (by first | assumption | exact lay _ ‹_› | exact lay _ (lay _ ‹_›) | (simp; done) | exact lay _ (by simp) | (simp [*]; done))
  replace qp2 : w11.cell? ⟨w.heap.size, 2, none⟩ = some (.slice Ah h.length ch) := keep hb (by first | assumption | exact lay _ ‹_› | exact lay _ (lay _ ‹_›) | (simp; done) | exact lay _ (by simp) | (simp [*]; done))
  replace kp : w.heap.size < w11.heap.size := World.block_lt_of_cell? _ _ qp0
  replace qx0 : w11.cell? ⟨w4.heap.size, 0, none⟩ = some (.slice (some ⟨gx1, 0, none⟩) s.length s.length) := keep hb (by first | assumption | exact lay _ ‹_› | exact lay _ (lay _ ‹_›) | (simp; done) | exact lay _ (by simp) | (simp [*]; done))
  replace qx1 : w11.cell? ⟨w4.heap.size, 1, none⟩ = some (.slice (some ⟨gx2, 0, none⟩) r.length r.length) := keep hb (by first | assumption | exact lay _ ‹_› | exact lay _ (lay _ ‹_›) | (simp; done) | exact lay _ (by simp) | (simp [*]; done))
  replace qx2 : w11.cell? ⟨w4.heap.size, 2, none⟩ = some (.slice (some ⟨gx3, 0, none⟩) h.length h.length) := keep hb (by first | assumption | exact lay _ ‹_› | exact lay _ (lay _ ‹_›) | (simp; done) | exact lay _ (by simp) | (simp [*]; done))
  replace kx : w4.heap.size < w11.heap.size := World.block_lt_of_cell? _ _ qx0
  clear hb
  have hB11 : Below w.heap.size w w11 := Below.on' hB10 hb11
  have z11 : w10.heap.size + 0 ≤ w11.heap.size := by have hz2 := hb11.size; omega
  replace hTa1 := hTa1.below hb11
  replace hTb1 := hTb1.below hb11
  go_wp2_with fail
  refine (markStringS_any _ _ _ _ _ _ _ hLR1 (by omega) (by omega) hTb1).mono ?_
  rintro e w12 ⟨rfl, hM, hF⟩
  replace qp0 := (World.cell?_of_block (hF.block _ (World.block_lt_of_cell? _ _ qp0) (by simp only; omega))).trans qp0
  replace qp1 := (World.cell?_of_block (hF.block _ (World.block_lt_of_cell? _ _ qp1) (by simp only; omega))).trans qp1
  replace qp2 := (World.cell?_of_block (hF.block _ (World.block_lt_of_cell? _ _ qp2) (by simp only; omega))).trans qp2
  replace kp : w.heap.size < w12.heap.size := World.block_lt_of_cell? _ _ qp0
  replace qx0 := (World.cell?_of_block (hF.block _ (World.block_lt_of_cell? _ _ qx0) (by simp only; omega))).trans qx0
  replace qx1 := (World.cell?_of_block (hF.block _ (World.block_lt_of_cell? _ _ qx1) (by simp only; omega))).trans qx1
  replace qx2 := (World.cell?_of_block (hF.block _ (World.block_lt_of_cell? _ _ qx2) (by simp only; omega))).trans qx2
  replace kx : w4.heap.size < w12.heap.size := World.block_lt_of_cell? _ _ qx0
  have hB12 : Below w.heap.size w w12 := hB11.trans (hF.below (by omega) (by omega))
  have z12 : w11.heap.size ≤ w12.heap.size := hF.size
  replace hTa1 := hTa1.fr hF (by omega)
  clear hF
  replace hTb1 := hM
  clear hM
  go_wp2_with fail
  refine (heldStringS_any _ _ _ _ _ _ _ hLR1 (by omega) (by omega) hTb1).mono ?_
  rintro e w13 ⟨rfl, hb⟩
  have hb13 : Below w12.heap.size w12 w13 := Below.on' (by go_grown) hb
  replace qp0 : w13.cell? ⟨w.heap.size, 0, none⟩ = some (.slice As s.length cs) := keep hb (by first | assumption | exact lay _ ‹_› | exact lay _ (lay _ ‹_›) | (simp; done) | exact lay _ (by simp) | (simp [*]; done))
  replace qp1 : w13.cell? ⟨w.heap.size, 1, none⟩ = some (.slice Ar r.length cr) := keep hb (by first | assumption | exact lay _ ‹_› | exact lay _ (lay _ ‹_›) | (simp; done) | exact lay _ (by simp) | (simp [*]; done))
  replace qp2 : w13.cell? ⟨w.heap.size, 2, none⟩ = some (.slice Ah h.length ch) := keep hb (by first | assumption | exact lay _ ‹_› | exact lay _ (lay _ ‹_›) | (simp; done) | exact lay _ (by simp) | (simp [*]; done))
  replace kp : w.heap.size < w13.heap.size := World.block_lt_of_cell? _ _ qp0
  replace qx0 : w13.cell? ⟨w4.heap.size, 0, none⟩ = some (.slice (some ⟨gx1, 0, none⟩) s.length s.length) := keep hb (by first | assumption | exact lay _ ‹_› | exact lay _ (lay _ ‹_›) | (simp; done) | exact lay _ (by simp) | (simp [*]; done))
  replace qx1 : w13.cell? ⟨w4.heap.size, 1, none⟩ = some (.slice (some ⟨gx2, 0, none⟩) r.length r.length) := keep hb (by first | assumption | exact lay _ ‹_› | exact lay _ (lay _ ‹_›) | (simp; done) | exact lay _ (by simp) | (simp [*]; done))
  replace qx2 : w13.cell? ⟨w4.heap.size, 2, none⟩ = some (.slice (some ⟨gx3, 0, none⟩) h.length h.length) := keep hb (by first | assumption | exact lay _ ‹_› | exact lay _ (lay _ ‹_›) | (simp; done) | exact lay _ (by simp) | (simp [*]; done))
  replace kx : w4.heap.size < w13.heap.size := World.block_lt_of_cell? _ _ qx0
  clear hb
  have hB13 : Below w.heap.size w w13 := Below.on' hB12 hb13
  have z13 : w12.heap.size + 0 ≤ w13.heap.size := by have hz2 := hb13.size; omega
  replace hTa1 := hTa1.below hb13
  replace hTb1 := hTb1.below hb13
  go_wp2_with fail
  refine (toChannel_any As cs s Ar cr r Ah ch h _ hl's (hSs.below hB13).all hl'r (hSr.below hB13).all hl'h (hSh.below hB13).all).mono ?_
  rintro e w14 ⟨gt1, gt2, gt3, mt1, mt2, rfl, hz1t, hz2t, hz3t, hU1, hU2, hU3, hb⟩
  have hb14 : Below w13.heap.size w13 w14 := Below.on' (by go_grown) hb
  replace qp0 : w14.cell? ⟨w.heap.size, 0, none⟩ = some (.slice As s.length cs) := keep hb (by first | assumption | exact lay _ ‹_› | exact lay _ (lay _ ‹_›) | (simp; done) | exact lay _ (by simp) | (simp [*]; done))
  replace qp1 : w14.cell? ⟨w.heap.size, 1, none⟩ = some (.slice Ar r.length cr) := keep hb (by first | assumption | exact lay _ ‹_› | exact lay _ (lay _ ‹_›) | (simp; done) | exact lay _ (by simp) | (simp [*]; done))
  replace qp2 : w14.cell? ⟨w.heap.size, 2, none⟩ = some (.slice Ah h.length ch) := keep hb (by first | assumption | exact lay _ ‹_› | exact lay _ (lay _ ‹_›) | (simp; done) | exact lay _ (by simp) | (simp [*]; done))
  replace kp : w.heap.size < w14.heap.size := World.block_lt_of_cell? _ _ qp0
  replace qx0 : w14.cell? ⟨w4.heap.size, 0, none⟩ = some (.slice (some ⟨gx1, 0, none⟩) s.length s.length) := keep hb (by first | assumption | exact lay _ ‹_› | exact lay _ (lay _ ‹_›) | (simp; done) | exact lay _ (by simp) | (simp [*]; done))
  replace qx1 : w14.cell? ⟨w4.heap.size, 1, none⟩ = some (.slice (some ⟨gx2, 0, none⟩) r.length r.length) := keep hb (by first | assumption | exact lay _ ‹_› | exact lay _ (lay _ ‹_›) | (simp; done) | exact lay _ (by simp) | (simp [*]; done))
  replace qx2 : w14.cell? ⟨w4.heap.size, 2, none⟩ = some (.slice (some ⟨gx3, 0, none⟩) h.length h.length) := keep hb (by first | assumption | exact lay _ ‹_› | exact lay _ (lay _ ‹_›) | (simp; done) | exact lay _ (by simp) | (simp [*]; done))
  replace kx : w4.heap.size < w14.heap.size := World.block_lt_of_cell? _ _ qx0
  clear hb
  have hB14 : Below w.heap.size w w14 := Below.on' hB13 hb14
  have z14 : w13.heap.size + 0 ≤ w14.heap.size := by have hz2 := hb14.size; omega
  replace hTa1 := hTa1.below hb14
  replace hTb1 := hTb1.below hb14
  have zzt : w13.heap.size ≤ mt1 := by have h := hz1t; first | omega | (simp at h; omega)
  have hTt1 := hU1.mono (lo' := w13.heap.size) (hi' := mt1) (by first | exact Nat.le_refl _ | (simp; done) | (simp; omega)) (Nat.le_refl _) (by omega)
  have hTt2 := hU2
  have hTt3 := hU3
  clear hU1 hU2 hU3
  go_wp2_with fail
  refine (InOrder_impl (some ⟨gt1, 0, none⟩) s.length s (some ⟨gt2, 0, none⟩) r.length r (some ⟨gt3, 0, none⟩) h.length h f _ hl's hm's hTt1.all (Nat.le_refl _) hl'r hm'r hTt2.all (Nat.le_refl _) hl'h hm'h hTt3.all (Nat.le_refl _) hs'f).mono ?_
  rintro e w15 ⟨Ah1, ch1, rfl, hU, hcc, hb⟩
  have hb15 : Below w14.heap.size w14 w15 := Below.on' (by go_grown) hb
  replace qp0 : w15.cell? ⟨w.heap.size, 0, none⟩ = some (.slice As s.length cs) := keep hb (by first | assumption | exact lay _ ‹_› | exact lay _ (lay _ ‹_›) | (simp; done) | exact lay _ (by simp) | (simp [*]; done))
  replace qp1 : w15.cell? ⟨w.heap.size, 1, none⟩ = some (.slice Ar r.length cr) := keep hb (by first | assumption | exact lay _ ‹_› | exact lay _ (lay _ ‹_›) | (simp; done) | exact lay _ (by simp) | (simp [*]; done))
  replace qp2 : w15.cell? ⟨w.heap.size, 2, none⟩ = some (.slice Ah h.length ch) := keep hb (by first | assumption | exact lay _ ‹_› | exact lay _ (lay _ ‹_›) | (simp; done) | exact lay _ (by simp) | (simp [*]; done))
  replace kp : w.heap.size < w15.heap.size := World.block_lt_of_cell? _ _ qp0
  replace qx0 : w15.cell? ⟨w4.heap.size, 0, none⟩ = some (.slice (some ⟨gx1, 0, none⟩) s.length s.length) := keep hb (by first | assumption | exact lay _ ‹_› | exact lay _ (lay _ ‹_›) | (simp; done) | exact lay _ (by simp) | (simp [*]; done))
  replace qx1 : w15.cell? ⟨w4.heap.size, 1, none⟩ = some (.slice (some ⟨gx2, 0, none⟩) r.length r.length) := keep hb (by first | assumption | exact lay _ ‹_› | exact lay _ (lay _ ‹_›) | (simp; done) | exact lay _ (by simp) | (simp [*]; done))
  replace qx2 : w15.cell? ⟨w4.heap.size, 2, none⟩ = some (.slice (some ⟨gx3, 0, none⟩) h.length h.length) := keep hb (by first | assumption | exact lay _ ‹_› | exact lay _ (lay _ ‹_›) | (simp; done) | exact lay _ (by simp) | (simp [*]; done))
  replace kx : w4.heap.size < w15.heap.size := World.block_lt_of_cell? _ _ qx0
  clear hb
  have hB15 : Below w.heap.size w w15 := Below.on' hB14 hb15
  have z15 : w14.heap.size + 0 ≤ w15.heap.size := by have hz2 := hb15.size; omega
  replace hTa1 := hTa1.below hb15
  replace hTb1 := hTb1.below hb15
  replace hTt1 := hTt1.below hb15
  replace hTt2 := hTt2.below hb15
  replace hTt3 := hTt3.below hb15
  have hTh1 := hU.mono (lo' := w14.heap.size) (hi' := w15.heap.size) (by first | exact Nat.le_refl _ | (simp; done) | (simp; omega)) (Nat.le_refl _) (by first | exact Nat.le_refl _ | omega)
  clear hU hcc
  clear hTt1
  clear hTt2
  clear hTt3
  go_wp2_with fail
  refine (eqStringS_same _ _ _ _ _ _ _ _ _ _ hLR1 hTh1 hTa1).mono ?_
  rintro e w16 ⟨rfl, hb⟩
  have hb16 : Below w15.heap.size w15 w16 := Below.on' (by go_grown) hb
  replace qp0 : w16.cell? ⟨w.heap.size, 0, none⟩ = some (.slice As s.length cs) := keep hb (by first | assumption | exact lay _ ‹_› | exact lay _ (lay _ ‹_›) | (simp; done) | exact lay _ (by simp) | (simp [*]; done))
  replace qp1 : w16.cell? ⟨w.heap.size, 1, none⟩ = some (.slice Ar r.length cr) := keep hb (by first | assumption | exact lay _ ‹_› | exact lay _ (lay _ ‹_›) | (simp; done) | exact lay _ (by simp) | (simp [*]; done))
  replace qp2 : w16.cell? ⟨w.heap.size, 2, none⟩ = some (.slice Ah h.length ch) := keep hb (by first | assumption | exact lay _ ‹_› | exact lay _ (lay _ ‹_›) | (simp; done) | exact lay _ (by simp) | (simp [*]; done))
  replace kp : w.heap.size < w16.heap.size := World.block_lt_of_cell? _ _ qp0
  replace qx0 : w16.cell? ⟨w4.heap.size, 0, none⟩ = some (.slice (some ⟨gx1, 0, none⟩) s.length s.length) := keep hb (by first | assumption | exact lay _ ‹_› | exact lay _ (lay _ ‹_›) | (simp; done) | exact lay _ (by simp) | (simp [*]; done))
  replace qx1 : w16.cell? ⟨w4.heap.size, 1, none⟩ = some (.slice (some ⟨gx2, 0, none⟩) r.length r.length) := keep hb (by first | assumption | exact lay _ ‹_› | exact lay _ (lay _ ‹_›) | (simp; done) | exact lay _ (by simp) | (simp [*]; done))
  replace qx2 : w16.cell? ⟨w4.heap.size, 2, none⟩ = some (.slice (some ⟨gx3, 0, none⟩) h.length h.length) := keep hb (by first | assumption | exact lay _ ‹_› | exact lay _ (lay _ ‹_›) | (simp; done) | exact lay _ (by simp) | (simp [*]; done))
  replace kx : w4.heap.size < w16.heap.size := World.block_lt_of_cell? _ _ qx0
  clear hb
  have hB16 : Below w.heap.size w w16 := Below.on' hB15 hb16
  have z16 : w15.heap.size + 0 ≤ w16.heap.size := by have hz2 := hb16.size; omega
  replace hTa1 := hTa1.below hb16
  replace hTb1 := hTb1.below hb16
  replace hTh1 := hTh1.below hb16
  clear hTh1
  clear hTa1
  go_wp2_with fail
  refine (heldStringS_any _ _ _ _ _ _ _ hLR1 (by omega) (by omega) hTb1).mono ?_
  rintro e w17 ⟨rfl, hb⟩
  have hb17 : Below w16.heap.size w16 w17 := Below.on' (by go_grown) hb
  replace qp0 : w17.cell? ⟨w.heap.size, 0, none⟩ = some (.slice As s.length cs) := keep hb (by first | assumption | exact lay _ ‹_› | exact lay _ (lay _ ‹_›) | (simp; done) | exact lay _ (by simp) | (simp [*]; done))
  replace qp1 : w17.cell? ⟨w.heap.size, 1, none⟩ = some (.slice Ar r.length cr) := keep hb (by first | assumption | exact lay _ ‹_› | exact lay _ (lay _ ‹_›) | (simp; done) | exact lay _ (by simp) | (simp [*]; done))
  replace qp2 : w17.cell? ⟨w.heap.size, 2, none⟩ = some (.slice Ah h.length ch) := keep hb (by first | assumption | exact lay _ ‹_› | exact lay _ (lay _ ‹_›) | (simp; done) | exact lay _ (by simp) | (simp [*]; done))
  replace kp : w.heap.size < w17.heap.size := World.block_lt_of_cell? _ _ qp0
  replace qx0 : w17.cell? ⟨w4.heap.size, 0, none⟩ = some (.slice (some ⟨gx1, 0, none⟩) s.length s.length) := keep hb (by first | assumption | exact lay _ ‹_› | exact lay _ (lay _ ‹_›) | (simp; done) | exact lay _ (by simp) | (simp [*]; done))
  replace qx1 : w17.cell? ⟨w4.heap.size, 1, none⟩ = some (.slice (some ⟨gx2, 0, none⟩) r.length r.length) := keep hb (by first | assumption | exact lay _ ‹_› | exact lay _ (lay _ ‹_›) | (simp; done) | exact lay _ (by simp) | (simp [*]; done))
  replace qx2 : w17.cell? ⟨w4.heap.size, 2, none⟩ = some (.slice (some ⟨gx3, 0, none⟩) h.length h.length) := keep hb (by first | assumption | exact lay _ ‹_› | exact lay _ (lay _ ‹_›) | (simp; done) | exact lay _ (by simp) | (simp [*]; done))
  replace kx : w4.heap.size < w17.heap.size := World.block_lt_of_cell? _ _ qx0
  clear hb
  have hB17 : Below w.heap.size w w17 := Below.on' hB16 hb17
  have z17 : w16.heap.size + 0 ≤ w17.heap.size := by have hz2 := hb17.size; omega
  replace hTb1 := hTb1.below hb17
  go_wp2_with fail
  go_ret
  exact ⟨rfl, hB17⟩

set_option maxRecDepth 100000 in
theorem lifted (os : Os) (started : os.Started) (H : Type) (enc : TypeId × Value → H) :
    ReturnsInHanded {} Try.checked os 3 .any (Rows.fnExactInOrderSpec.pre6 enc Try.prog Try.f3 Rows.fnExactInOrderRow.domain false) (Rows.fnExactInOrderSpec.post enc Try.prog Try.f3 false true false false) := by
  refine law_lifted (C := Try.checked) own started (by kernel_rfl) Try.func3
    (ChangeSpec.witness6 (enc := enc) (C := Try.checked) false ⟨#[], #[.agg #[.slice none 0 0, .slice none 0 0, .slice none 0 0], .string ⟨#[]⟩], []⟩ 8 (by kernel_rfl) (by kernel_rfl) (by kernel_rfl) (by kernel_rfl))
    laidOut 4 (by kernel_rfl) Try.underlying4 (by kernel_rfl) rfl ?_ ?_
  · intro ds hds
    have hn : Try.f3.params.size = 2 := by kernel_rfl
    rw [hn] at hds
    match ds, hds with
    | [d0, d1], _ => rfl
  intro W base args ds p hval0 hA0 hlt hnf hsh
  have hval : ∀ (j : Nat) t v, Try.f3.params[j]? = some t → args[j]? = some v → Value.okWide Try.prog W .any base t v := hval0
  have hA : DataW.TrodAll enc Try.prog W 0 (fun _ => true) true Try.f3.params.toList args.toList ds p := hA0
  clear hval0 hA0
  rw [Try.params3] at hA hval
  obtain ⟨v0, vs0, d0, ds0, p0, q0, hargs, rfl, rfl, h0, r0⟩ := trodAll_cons hA
  obtain ⟨v1, vs1, d1, ds1, p1, q1, rfl, rfl, rfl, h1, r1⟩ := trodAll_cons r0
  obtain ⟨rfl, rfl, rfl⟩ := trodAll_nil r1
  obtain rfl : args = #[v0, v1] := by cases args; simp_all
  obtain ⟨As, cs, s, Ar, cr, r, Ah, ch, h, rfl, ⟨hls, hms, hSs⟩, ⟨hlr, hmr, hSr⟩, ⟨hlh, hmh, hSh⟩⟩ := Chan.opened (hval 0 24 v0 rfl rfl) h0 (fun x hx => hlt x (by simp [hx])) (fun b o h => hnf b o (by simp [h]))
  obtain ⟨f, rfl, rfl, rfl, hf⟩ := Go.ChangeMaps.open_string Try.underlying9 (hval 1 9 v1 rfl rfl) h1
  exact walk As cs s Ar cr r Ah ch h hls hms hlr hmr hlh hmh f hf W hSs hSr hSh

theorem over : Rows.fnExactInOrderRow.holds Try.pinned (OpenSpec.ofChange Rows.fnExactInOrderSpec) :=
  OpenClaim.holds_of_wide 3 Try.f3 rfl rfl rfl rfl rfl rfl rfl ⟨rfl, rfl, rfl, rfl, rfl⟩ rfl rfl rfl rfl rfl (by kernel_rfl) Try.func3 (by kernel_rfl)
    (of_decide_eq_true (by kernel_rfl)) (by unfold Func.isWrapper; first | (rw [if_pos (by decide +kernel)]; kernel_rfl) | (rw [if_neg (by decide +kernel)]; exact ⟨rfl, rfl⟩))
    (fun os started H enc _ => lifted os started H enc)

theorem proved : Rows.FnExactInOrderSaid :=
  over
#print axioms proved
end Go.Proofs.Ytpfopmlbnogilaa.lawInOrder

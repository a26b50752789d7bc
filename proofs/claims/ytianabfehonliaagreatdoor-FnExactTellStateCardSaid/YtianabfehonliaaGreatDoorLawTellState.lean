/- FnExactTellState: the program's TellState returns what the reference's returns, for all arguments. No conditions beyond the card's own: the listed variables are those that the program's text lays. -/
import Derived.Test.YtianabfehonliaaGreatDoorEndT2
import Derived.Test.YtianabfehonliaaGreatDoorEndT3
import Derived.Test.YtianabfehonliaaGreatDoorLM
import Derived.Test.YtianabfehonliaaGreatDoorLR
import Derived.Test.YtianabfehonliaaGreatDoorTie
import Derived.Test.YtianabfehonliaaGreatDoorCards
import Derived.Test.YtianabfehonliaaGreatDoorLA
import Derived.SevenTiedAt
import Derived.Lay
import Derived.ChangeMaps5
namespace Go.Proofs.YtianabfehonliaaGreatDoor.lawTellState
open Go.ChangeShapes Go.WideShapes Go.ChangeAt Go.RowKit Go.Joins Go.Proofs.YtianabfehonliaaGreatDoor

set_option maxRecDepth 100000 in
set_option maxHeartbeats 16000000 in
theorem walk (Af : Option Addr) (cf : Nat) (f : List App) (An : Option Addr) (cn : Nat) (n : List App) (As : Option Addr) (cs : Nat) (s : List Msg) (Ar : Option Addr) (cr : Nat) (r : List Msg) (Ah : Option Addr) (ch : Nat) (h : List Msg) (hlf : f.length ≤ maxLen) (hmf : ∀ y ∈ f, y.nm.size ≤ maxLen) (hln : n.length ≤ maxLen) (hmn : ∀ y ∈ n, y.nm.size ≤ maxLen) (hls : s.length ≤ maxLen) (hms : ∀ y ∈ s, y.f.size ≤ maxLen ∧ y.b.size ≤ maxLen) (hlr : r.length ≤ maxLen) (hmr : ∀ y ∈ r, y.f.size ≤ maxLen ∧ y.b.size ≤ maxLen) (hlh : h.length ≤ maxLen) (hmh : ∀ y ∈ h, y.f.size ≤ maxLen ∧ y.b.size ≤ maxLen) (nm : ByteArray) (_hnm : nm.size ≤ maxLen) (k : Int) (w : World) (hL : laidMetH Tryz.prog Rows.fnExactTellStateRow.laid w) (hSf : Apps w 0 w.heap.size Af f) (hSn : Apps w 0 w.heap.size An n) (hSs : Msgs w 0 w.heap.size As s) (hSr : Msgs w 0 w.heap.size Ar r) (hSh : Msgs w 0 w.heap.size Ah h) : Calls Tryz.prog 9 #[.agg #[.slice Af f.length cf, .slice An n.length cn, .slice As s.length cs, .slice Ar r.length cr, .slice Ah h.length ch], .string nm, .int .i64 k] w fun e w' => e = .returned (.bool true) ∧ Below w.heap.size w w' := by
  have hT : Said w := by
    have h : laidMet Tryz.prog Rows.fnExactTellStateRow.laid w := by rw [MakeChecks.laidMetH_plain _ _ _ (by kernel_rfl)] at hL; exact hL
    exact said_at h.tail.tail h.tail.tail.tail
  clear hL
  go_enter Tryz.func9, Tryz.ntmps9
  by_cases hbignm : 1048576 < nm.size
  · have hbig' : (1048576 : Int) < nm.size := by omega
    go_wp2
    go_ret
    exact ⟨rfl, by go_grown⟩
  have hs'nm : nm.size ≤ 1048576 := by omega
  have hs''nm : (nm.size : Int) ≤ 1048576 := by omega
  clear hbignm
  go_wp2_with fail
  refine (szEnds_any Af cf f An cn n As cs s Ar cr r Ah ch h _ _ hlf hmf (hSf.alloc _).all hln hmn (hSn.alloc _).all hls hms (hSs.alloc _).all hlr hmr (hSr.alloc _).all hlh hmh (hSh.alloc _).all (by omega) (by omega)).mono ?_
  rintro e w1 ⟨q0, rfl, hq0, hrest, hb⟩
  have hb1 : Below w.heap.size w w1 := Below.on' (by go_grown) hb
  have qp0 : w1.cell? ⟨w.heap.size, 0, none⟩ = some (.slice Af f.length cf) := keep hb (by first | assumption | exact lay _ ‹_› | exact lay _ (lay _ ‹_›) | (simp; done) | exact lay _ (by simp) | (simp [*]; done))
  have qp1 : w1.cell? ⟨w.heap.size, 1, none⟩ = some (.slice An n.length cn) := keep hb (by first | assumption | exact lay _ ‹_› | exact lay _ (lay _ ‹_›) | (simp; done) | exact lay _ (by simp) | (simp [*]; done))
  have qp2 : w1.cell? ⟨w.heap.size, 2, none⟩ = some (.slice As s.length cs) := keep hb (by first | assumption | exact lay _ ‹_› | exact lay _ (lay _ ‹_›) | (simp; done) | exact lay _ (by simp) | (simp [*]; done))
  have qp3 : w1.cell? ⟨w.heap.size, 3, none⟩ = some (.slice Ar r.length cr) := keep hb (by first | assumption | exact lay _ ‹_› | exact lay _ (lay _ ‹_›) | (simp; done) | exact lay _ (by simp) | (simp [*]; done))
  have qp4 : w1.cell? ⟨w.heap.size, 4, none⟩ = some (.slice Ah h.length ch) := keep hb (by first | assumption | exact lay _ ‹_› | exact lay _ (lay _ ‹_›) | (simp; done) | exact lay _ (by simp) | (simp [*]; done))
  have kp : w.heap.size < w1.heap.size := World.block_lt_of_cell? _ _ qp0
  clear hb
  have hB1 : Below w.heap.size w w1 := hb1
  have z1 : w.heap.size + 1 ≤ w1.heap.size := by have hz := World.block_lt_of_cell? _ _ qp0; have hz2 := hb1.size; simp only at hz; omega
  by_cases h0q : q0 < 0
  · go_wp2
    go_ret
    exact ⟨rfl, hB1⟩
  obtain ⟨⟨hl'f, hm'f⟩, ⟨hl'n, hm'n⟩, ⟨hl's, hm's⟩, ⟨hl'r, hm'r⟩, ⟨hl'h, hm'h⟩⟩ := hrest (by omega)
  clear hrest
  obtain ⟨R, hRT⟩ : ∃ R, R = telT f n s r h nm k := ⟨_, rfl⟩
  replace hRT := Lib.hid hRT
  obtain ⟨hLR1, hLR2, hLR3, hLR4, hLR5⟩ : R.1.1.length ≤ 1048576 ∧ R.1.2.1.length ≤ 1048576 ∧ R.1.2.2.1.length ≤ 1048576 ∧ R.1.2.2.2.1.length ≤ 1048576 ∧ R.1.2.2.2.2.length ≤ 1048576 := by rw [hRT.out]; exact telT_len hl'f nm k
  go_wp2_with fail
  refine (toEnds_any Af cf f An cn n As cs s Ar cr r Ah ch h _ hl'f (hSf.below hB1).all hl'n (hSn.below hB1).all hl's (hSs.below hB1).all hl'r (hSr.below hB1).all hl'h (hSh.below hB1).all).mono ?_
  rintro e w2 ⟨gt1, gt2, gt3, gt4, gt5, mt1, mt2, mt3, mt4, rfl, ⟨yt1, yt2, yt3, yt4, yt5⟩, hU1, hU2, hU3, hU4, hU5, hb⟩
  have hb2 : Below w1.heap.size w1 w2 := Below.on' (by go_grown) hb
  replace qp0 : w2.cell? ⟨w.heap.size, 0, none⟩ = some (.slice Af f.length cf) := keep hb (by first | assumption | exact lay _ ‹_› | exact lay _ (lay _ ‹_›) | (simp; done) | exact lay _ (by simp) | (simp [*]; done))
  replace qp1 : w2.cell? ⟨w.heap.size, 1, none⟩ = some (.slice An n.length cn) := keep hb (by first | assumption | exact lay _ ‹_› | exact lay _ (lay _ ‹_›) | (simp; done) | exact lay _ (by simp) | (simp [*]; done))
  replace qp2 : w2.cell? ⟨w.heap.size, 2, none⟩ = some (.slice As s.length cs) := keep hb (by first | assumption | exact lay _ ‹_› | exact lay _ (lay _ ‹_›) | (simp; done) | exact lay _ (by simp) | (simp [*]; done))
  replace qp3 : w2.cell? ⟨w.heap.size, 3, none⟩ = some (.slice Ar r.length cr) := keep hb (by first | assumption | exact lay _ ‹_› | exact lay _ (lay _ ‹_›) | (simp; done) | exact lay _ (by simp) | (simp [*]; done))
  replace qp4 : w2.cell? ⟨w.heap.size, 4, none⟩ = some (.slice Ah h.length ch) := keep hb (by first | assumption | exact lay _ ‹_› | exact lay _ (lay _ ‹_›) | (simp; done) | exact lay _ (by simp) | (simp [*]; done))
  replace kp : w.heap.size < w2.heap.size := World.block_lt_of_cell? _ _ qp0
  clear hb
  have hB2 : Below w.heap.size w w2 := Below.on' hB1 hb2
  have z2 : w1.heap.size + 0 ≤ w2.heap.size := by have hz2 := hb2.size; omega
  have zzt : w1.heap.size ≤ mt1 := by have h := yt1; first | omega | (simp at h; omega)
  have hTt1 := hU1.mono (lo' := w1.heap.size) (hi' := mt1) (by first | exact Nat.le_refl _ | (simp; done) | (simp; omega)) (Nat.le_refl _) (by omega)
  have hTt2 := hU2
  have hTt3 := hU3
  have hTt4 := hU4
  have hTt5 := hU5
  clear hU1 hU2 hU3 hU4 hU5
  go_wp2_with fail
  refine (Eq.symm hRT.out ▸ TellState_spec (some ⟨gt1, 0, none⟩) f.length f (some ⟨gt2, 0, none⟩) n.length n (some ⟨gt3, 0, none⟩) s.length s (some ⟨gt4, 0, none⟩) r.length r (some ⟨gt5, 0, none⟩) h.length h nm k _ ⟨hl'f, hm'f, hTt1.all, hl'n, hm'n, hTt2.all, hl's, hm's, hTt3.all, Nat.le_refl _, hl'r, hm'r, hTt4.all, Nat.le_refl _, hl'h, hm'h, hTt5.all, Nat.le_refl _⟩ hs'nm).mono ?_
  rintro e w3 ⟨Aa1, ca1, Aa2, ca2, Aa3, ca3, Aa4, ca4, Aa5, ca5, rfl, ⟨la1, ua1, la2, ua2, lca, hca, la3, ua3, la4, ua4, la5, ua5, hTa1, hTa2, hTa3, hTa4, hTa5, ⟨ia1, ja1, oa1⟩, ⟨ia2, ja2, oa2⟩, ⟨ica, jca, oca⟩, ⟨ia3, ja3, oa3⟩, ⟨ia4, ja4, oa4⟩, ⟨ia5, ja5, oa5⟩, ea0, ea1, ea2, ea3, ea4, ea5⟩, hb⟩
  have hb3 : Below w2.heap.size w2 w3 := Below.on' (by go_grown) hb
  replace qp0 : w3.cell? ⟨w.heap.size, 0, none⟩ = some (.slice Af f.length cf) := keep hb (by first | assumption | exact lay _ ‹_› | exact lay _ (lay _ ‹_›) | (simp; done) | exact lay _ (by simp) | (simp [*]; done))
  replace qp1 : w3.cell? ⟨w.heap.size, 1, none⟩ = some (.slice An n.length cn) := keep hb (by first | assumption | exact lay _ ‹_› | exact lay _ (lay _ ‹_›) | (simp; done) | exact lay _ (by simp) | (simp [*]; done))
  replace qp2 : w3.cell? ⟨w.heap.size, 2, none⟩ = some (.slice As s.length cs) := keep hb (by first | assumption | exact lay _ ‹_› | exact lay _ (lay _ ‹_›) | (simp; done) | exact lay _ (by simp) | (simp [*]; done))
  replace qp3 : w3.cell? ⟨w.heap.size, 3, none⟩ = some (.slice Ar r.length cr) := keep hb (by first | assumption | exact lay _ ‹_› | exact lay _ (lay _ ‹_›) | (simp; done) | exact lay _ (by simp) | (simp [*]; done))
  replace qp4 : w3.cell? ⟨w.heap.size, 4, none⟩ = some (.slice Ah h.length ch) := keep hb (by first | assumption | exact lay _ ‹_› | exact lay _ (lay _ ‹_›) | (simp; done) | exact lay _ (by simp) | (simp [*]; done))
  replace kp : w.heap.size < w3.heap.size := World.block_lt_of_cell? _ _ qp0
  clear hb
  have hB3 : Below w.heap.size w w3 := Below.on' hB2 hb3
  have z3 : w2.heap.size + 0 ≤ w3.heap.size := by have hz2 := hb3.size; omega
  replace hTt1 := hTt1.below hb3
  replace hTt2 := hTt2.below hb3
  replace hTt3 := hTt3.below hb3
  replace hTt4 := hTt4.below hb3
  replace hTt5 := hTt5.below hb3
  have va1 : w2.heap.size ≤ la1 := by have h := ia1; first | omega | (simp at h; omega)
  have va2 : w2.heap.size ≤ la2 := by have h := ia2; first | omega | (simp at h; omega)
  have vca : w2.heap.size ≤ lca := by have h := ica; first | omega | (simp at h; omega)
  clear hTt1
  clear hTt2
  clear hTt3
  clear hTt4
  clear hTt5
  go_wp2_with fail
  refine (toEnds_any Af cf f An cn n As cs s Ar cr r Ah ch h _ hl'f ((hSf.below hB3).alloc _).all hl'n ((hSn.below hB3).alloc _).all hl's ((hSs.below hB3).alloc _).all hl'r ((hSr.below hB3).alloc _).all hl'h ((hSh.below hB3).alloc _).all).mono ?_
  rintro e w4 ⟨gx1, gx2, gx3, gx4, gx5, mx1, mx2, mx3, mx4, rfl, ⟨yx1, yx2, yx3, yx4, yx5⟩, hU1, hU2, hU3, hU4, hU5, hb⟩
  have hb4 : Below w3.heap.size w3 w4 := Below.on' (by go_grown) hb
  replace qp0 : w4.cell? ⟨w.heap.size, 0, none⟩ = some (.slice Af f.length cf) := keep hb (by first | assumption | exact lay _ ‹_› | exact lay _ (lay _ ‹_›) | (simp; done) | exact lay _ (by simp) | (simp [*]; done))
  replace qp1 : w4.cell? ⟨w.heap.size, 1, none⟩ = some (.slice An n.length cn) := keep hb (by first | assumption | exact lay _ ‹_› | exact lay _ (lay _ ‹_›) | (simp; done) | exact lay _ (by simp) | (simp [*]; done))
  replace qp2 : w4.cell? ⟨w.heap.size, 2, none⟩ = some (.slice As s.length cs) := keep hb (by first | assumption | exact lay _ ‹_› | exact lay _ (lay _ ‹_›) | (simp; done) | exact lay _ (by simp) | (simp [*]; done))
  replace qp3 : w4.cell? ⟨w.heap.size, 3, none⟩ = some (.slice Ar r.length cr) := keep hb (by first | assumption | exact lay _ ‹_› | exact lay _ (lay _ ‹_›) | (simp; done) | exact lay _ (by simp) | (simp [*]; done))
  replace qp4 : w4.cell? ⟨w.heap.size, 4, none⟩ = some (.slice Ah h.length ch) := keep hb (by first | assumption | exact lay _ ‹_› | exact lay _ (lay _ ‹_›) | (simp; done) | exact lay _ (by simp) | (simp [*]; done))
  replace kp : w.heap.size < w4.heap.size := World.block_lt_of_cell? _ _ qp0
  have qa0 : w4.cell? ⟨w3.heap.size, 0, none⟩ = some (.slice Aa1 ((R).1.1).length ca1) := keep hb (by first | assumption | exact lay _ ‹_› | exact lay _ (lay _ ‹_›) | (simp; done) | exact lay _ (by simp) | (simp [*]; done))
  have qa1 : w4.cell? ⟨w3.heap.size, 1, none⟩ = some (.slice Aa2 ((R).1.2.1).length ca2) := keep hb (by first | assumption | exact lay _ ‹_› | exact lay _ (lay _ ‹_›) | (simp; done) | exact lay _ (by simp) | (simp [*]; done))
  have qa2 : w4.cell? ⟨w3.heap.size, 2, none⟩ = some (.slice Aa3 ((R).1.2.2.1).length ca3) := keep hb (by first | assumption | exact lay _ ‹_› | exact lay _ (lay _ ‹_›) | (simp; done) | exact lay _ (by simp) | (simp [*]; done))
  have qa3 : w4.cell? ⟨w3.heap.size, 3, none⟩ = some (.slice Aa4 ((R).1.2.2.2.1).length ca4) := keep hb (by first | assumption | exact lay _ ‹_› | exact lay _ (lay _ ‹_›) | (simp; done) | exact lay _ (by simp) | (simp [*]; done))
  have qa4 : w4.cell? ⟨w3.heap.size, 4, none⟩ = some (.slice Aa5 ((R).1.2.2.2.2).length ca5) := keep hb (by first | assumption | exact lay _ ‹_› | exact lay _ (lay _ ‹_›) | (simp; done) | exact lay _ (by simp) | (simp [*]; done))
  have ka : w3.heap.size < w4.heap.size := World.block_lt_of_cell? _ _ qa0
  clear hb
  have hB4 : Below w.heap.size w w4 := Below.on' hB3 hb4
  have z4 : w3.heap.size + 1 ≤ w4.heap.size := by have hz := World.block_lt_of_cell? _ _ qa0; have hz2 := hb4.size; simp only at hz; omega
  replace hTa1 := hTa1.below hb4
  replace hTa2 := hTa2.below hb4
  replace hTa3 := hTa3.below hb4
  replace hTa4 := hTa4.below hb4
  replace hTa5 := hTa5.below hb4
  have zzx : w3.heap.size + 1 ≤ mx1 := by have h := yx1; first | omega | (simp at h; omega)
  have hTx1 := hU1.mono (lo' := w3.heap.size + 1) (hi' := mx1) (by first | exact Nat.le_refl _ | (simp; done) | (simp; omega)) (Nat.le_refl _) (by omega)
  have hTx2 := hU2
  have hTx3 := hU3
  have hTx4 := hU4
  have hTx5 := hU5
  clear hU1 hU2 hU3 hU4 hU5
  go_wp2_with fail
  refine (Eq.symm hRT.out ▸ TellState_impl (some ⟨gx1, 0, none⟩) f.length f (some ⟨gx2, 0, none⟩) n.length n (some ⟨gx3, 0, none⟩) s.length s (some ⟨gx4, 0, none⟩) r.length r (some ⟨gx5, 0, none⟩) h.length h nm k _ ⟨hl'f, hm'f, (hTx1.alloc _).all, hl'n, hm'n, (hTx2.alloc _).all, hl's, hm's, (hTx3.alloc _).all, Nat.le_refl _, hl'r, hm'r, (hTx4.alloc _).all, Nat.le_refl _, hl'h, hm'h, (hTx5.alloc _).all, Nat.le_refl _⟩ hs'nm (hT.below (by go_grown))).mono ?_
  rintro e w5 ⟨Ab1, cb1, Ab2, cb2, Ab3, cb3, Ab4, cb4, Ab5, cb5, rfl, ⟨lb1, ub1, lb2, ub2, lcb, hcb, lb3, ub3, lb4, ub4, lb5, ub5, hTb1, hTb2, hTb3, hTb4, hTb5, ⟨ib1, jb1, ob1⟩, ⟨ib2, jb2, ob2⟩, ⟨icb, jcb, ocb⟩, ⟨ib3, jb3, ob3⟩, ⟨ib4, jb4, ob4⟩, ⟨ib5, jb5, ob5⟩, eb0, eb1, eb2, eb3, eb4, eb5⟩, hb⟩
  have hb5 : Below w4.heap.size w4 w5 := Below.on' (by go_grown) hb
  replace qp0 : w5.cell? ⟨w.heap.size, 0, none⟩ = some (.slice Af f.length cf) := keep hb (by first | assumption | exact lay _ ‹_› | exact lay _ (lay _ ‹_›) | (simp; done) | exact lay _ (by simp) | (simp [*]; done))
  replace qp1 : w5.cell? ⟨w.heap.size, 1, none⟩ = some (.slice An n.length cn) := keep hb (by first | assumption | exact lay _ ‹_› | exact lay _ (lay _ ‹_›) | (simp; done) | exact lay _ (by simp) | (simp [*]; done))
  replace qp2 : w5.cell? ⟨w.heap.size, 2, none⟩ = some (.slice As s.length cs) := keep hb (by first | assumption | exact lay _ ‹_› | exact lay _ (lay _ ‹_›) | (simp; done) | exact lay _ (by simp) | (simp [*]; done))
  replace qp3 : w5.cell? ⟨w.heap.size, 3, none⟩ = some (.slice Ar r.length cr) := keep hb (by first | assumption | exact lay _ ‹_› | exact lay _ (lay _ ‹_›) | (simp; done) | exact lay _ (by simp) | (simp [*]; done))
  replace qp4 : w5.cell? ⟨w.heap.size, 4, none⟩ = some (.slice Ah h.length ch) := keep hb (by first | assumption | exact lay _ ‹_› | exact lay _ (lay _ ‹_›) | (simp; done) | exact lay _ (by simp) | (simp [*]; done))
  replace kp : w.heap.size < w5.heap.size := World.block_lt_of_cell? _ _ qp0
  replace qa0 : w5.cell? ⟨w3.heap.size, 0, none⟩ = some (.slice Aa1 ((R).1.1).length ca1) := keep hb (by first | assumption | exact lay _ ‹_› | exact lay _ (lay _ ‹_›) | (simp; done) | exact lay _ (by simp) | (simp [*]; done))
  replace qa1 : w5.cell? ⟨w3.heap.size, 1, none⟩ = some (.slice Aa2 ((R).1.2.1).length ca2) := keep hb (by first | assumption | exact lay _ ‹_› | exact lay _ (lay _ ‹_›) | (simp; done) | exact lay _ (by simp) | (simp [*]; done))
  replace qa2 : w5.cell? ⟨w3.heap.size, 2, none⟩ = some (.slice Aa3 ((R).1.2.2.1).length ca3) := keep hb (by first | assumption | exact lay _ ‹_› | exact lay _ (lay _ ‹_›) | (simp; done) | exact lay _ (by simp) | (simp [*]; done))
  replace qa3 : w5.cell? ⟨w3.heap.size, 3, none⟩ = some (.slice Aa4 ((R).1.2.2.2.1).length ca4) := keep hb (by first | assumption | exact lay _ ‹_› | exact lay _ (lay _ ‹_›) | (simp; done) | exact lay _ (by simp) | (simp [*]; done))
  replace qa4 : w5.cell? ⟨w3.heap.size, 4, none⟩ = some (.slice Aa5 ((R).1.2.2.2.2).length ca5) := keep hb (by first | assumption | exact lay _ ‹_› | exact lay _ (lay _ ‹_›) | (simp; done) | exact lay _ (by simp) | (simp [*]; done))
  replace ka : w3.heap.size < w5.heap.size := World.block_lt_of_cell? _ _ qa0
  have qx0 : w5.cell? ⟨w4.heap.size, 0, none⟩ = some (.slice (some ⟨gx1, 0, none⟩) f.length f.length) := keep hb (by first | assumption | exact lay _ ‹_› | exact lay _ (lay _ ‹_›) | (simp; done) | exact lay _ (by simp) | (simp [*]; done))
  have qx1 : w5.cell? ⟨w4.heap.size, 1, none⟩ = some (.slice (some ⟨gx2, 0, none⟩) n.length n.length) := keep hb (by first | assumption | exact lay _ ‹_› | exact lay _ (lay _ ‹_›) | (simp; done) | exact lay _ (by simp) | (simp [*]; done))
  have qx2 : w5.cell? ⟨w4.heap.size, 2, none⟩ = some (.slice (some ⟨gx3, 0, none⟩) s.length s.length) := keep hb (by first | assumption | exact lay _ ‹_› | exact lay _ (lay _ ‹_›) | (simp; done) | exact lay _ (by simp) | (simp [*]; done))
  have qx3 : w5.cell? ⟨w4.heap.size, 3, none⟩ = some (.slice (some ⟨gx4, 0, none⟩) r.length r.length) := keep hb (by first | assumption | exact lay _ ‹_› | exact lay _ (lay _ ‹_›) | (simp; done) | exact lay _ (by simp) | (simp [*]; done))
  have qx4 : w5.cell? ⟨w4.heap.size, 4, none⟩ = some (.slice (some ⟨gx5, 0, none⟩) h.length h.length) := keep hb (by first | assumption | exact lay _ ‹_› | exact lay _ (lay _ ‹_›) | (simp; done) | exact lay _ (by simp) | (simp [*]; done))
  have kx : w4.heap.size < w5.heap.size := World.block_lt_of_cell? _ _ qx0
  clear hb
  have hB5 : Below w.heap.size w w5 := Below.on' hB4 hb5
  have z5 : w4.heap.size + 1 ≤ w5.heap.size := by have hz := World.block_lt_of_cell? _ _ qx0; have hz2 := hb5.size; simp only at hz; omega
  replace hTa1 := hTa1.below hb5
  replace hTa2 := hTa2.below hb5
  replace hTa3 := hTa3.below hb5
  replace hTa4 := hTa4.below hb5
  replace hTa5 := hTa5.below hb5
  replace hTx1 := hTx1.below hb5
  replace hTx2 := hTx2.below hb5
  replace hTx3 := hTx3.below hb5
  replace hTx4 := hTx4.below hb5
  replace hTx5 := hTx5.below hb5
  have vb1 : w4.heap.size + 1 ≤ lb1 := by have h := ib1; first | omega | (simp at h; omega)
  have vb2 : w4.heap.size + 1 ≤ lb2 := by have h := ib2; first | omega | (simp at h; omega)
  have vcb : w4.heap.size + 1 ≤ lcb := by have h := icb; first | omega | (simp at h; omega)
  go_wp2_with fail
  refine (eqEnds_same _ _ _ _ _ _ _ _ _ _ _ _ _ _ _ _ _ _ _ _ _ _ _ _ _ _ _ _ _ _ _ _ _ _ _ _ _ _ _ _ _ _ _ _ _ _ hLR1 (hTb1.alloc _) (hTa1.alloc _) hLR2 (hTb2.alloc _) (hTa2.alloc _) hLR3 (hTb3.alloc _) (hTa3.alloc _) hLR4 (hTb4.alloc _) (hTa4.alloc _) hLR5 (hTb5.alloc _) (hTa5.alloc _)).mono ?_
  rintro e w6 ⟨rfl, hb⟩
  have hb6 : Below w5.heap.size w5 w6 := Below.on' (by go_grown) hb
  replace qp0 : w6.cell? ⟨w.heap.size, 0, none⟩ = some (.slice Af f.length cf) := keep hb (by first | assumption | exact lay _ ‹_› | exact lay _ (lay _ ‹_›) | (simp; done) | exact lay _ (by simp) | (simp [*]; done))
  replace qp1 : w6.cell? ⟨w.heap.size, 1, none⟩ = some (.slice An n.length cn) := keep hb (by first | assumption | exact lay _ ‹_› | exact lay _ (lay _ ‹_›) | (simp; done) | exact lay _ (by simp) | (simp [*]; done))
  replace qp2 : w6.cell? ⟨w.heap.size, 2, none⟩ = some (.slice As s.length cs) := keep hb (by first | assumption | exact lay _ ‹_› | exact lay _ (lay _ ‹_›) | (simp; done) | exact lay _ (by simp) | (simp [*]; done))
  replace qp3 : w6.cell? ⟨w.heap.size, 3, none⟩ = some (.slice Ar r.length cr) := keep hb (by first | assumption | exact lay _ ‹_› | exact lay _ (lay _ ‹_›) | (simp; done) | exact lay _ (by simp) | (simp [*]; done))
  replace qp4 : w6.cell? ⟨w.heap.size, 4, none⟩ = some (.slice Ah h.length ch) := keep hb (by first | assumption | exact lay _ ‹_› | exact lay _ (lay _ ‹_›) | (simp; done) | exact lay _ (by simp) | (simp [*]; done))
  replace kp : w.heap.size < w6.heap.size := World.block_lt_of_cell? _ _ qp0
  replace qa0 : w6.cell? ⟨w3.heap.size, 0, none⟩ = some (.slice Aa1 ((R).1.1).length ca1) := keep hb (by first | assumption | exact lay _ ‹_› | exact lay _ (lay _ ‹_›) | (simp; done) | exact lay _ (by simp) | (simp [*]; done))
  replace qa1 : w6.cell? ⟨w3.heap.size, 1, none⟩ = some (.slice Aa2 ((R).1.2.1).length ca2) := keep hb (by first | assumption | exact lay _ ‹_› | exact lay _ (lay _ ‹_›) | (simp; done) | exact lay _ (by simp) | (simp [*]; done))
  replace qa2 : w6.cell? ⟨w3.heap.size, 2, none⟩ = some (.slice Aa3 ((R).1.2.2.1).length ca3) := keep hb (by first | assumption | exact lay _ ‹_› | exact lay _ (lay _ ‹_›) | (simp; done) | exact lay _ (by simp) | (simp [*]; done))
  replace qa3 : w6.cell? ⟨w3.heap.size, 3, none⟩ = some (.slice Aa4 ((R).1.2.2.2.1).length ca4) := keep hb (by first | assumption | exact lay _ ‹_› | exact lay _ (lay _ ‹_›) | (simp; done) | exact lay _ (by simp) | (simp [*]; done))
  replace qa4 : w6.cell? ⟨w3.heap.size, 4, none⟩ = some (.slice Aa5 ((R).1.2.2.2.2).length ca5) := keep hb (by first | assumption | exact lay _ ‹_› | exact lay _ (lay _ ‹_›) | (simp; done) | exact lay _ (by simp) | (simp [*]; done))
  replace ka : w3.heap.size < w6.heap.size := World.block_lt_of_cell? _ _ qa0
  replace qx0 : w6.cell? ⟨w4.heap.size, 0, none⟩ = some (.slice (some ⟨gx1, 0, none⟩) f.length f.length) := keep hb (by first | assumption | exact lay _ ‹_› | exact lay _ (lay _ ‹_›) | (simp; done) | exact lay _ (by simp) | (simp [*]; done))
  replace qx1 : w6.cell? ⟨w4.heap.size, 1, none⟩ = some (.slice (some ⟨gx2, 0, none⟩) n.length n.length) := keep hb (by first | assumption | exact lay _ ‹_› | exact lay _ (lay _ ‹_›) | (simp; done) | exact lay _ (by simp) | (simp [*]; done))
  replace qx2 : w6.cell? ⟨w4.heap.size, 2, none⟩ = some (.slice (some ⟨gx3, 0, none⟩) s.length s.length) := keep hb (by first | assumption | exact lay _ ‹_› | exact lay _ (lay _ ‹_›) | (simp; done) | exact lay _ (by simp) | (simp [*]; done))
  replace qx3 : w6.cell? ⟨w4.heap.size, 3, none⟩ = some (.slice (some ⟨gx4, 0, none⟩) r.length r.length) := keep hb (by first | assumption | exact lay _ ‹_› | exact lay _ (lay _ ‹_›) | (simp; done) | exact lay _ (by simp) | (simp [*]; done))
  replace qx4 : w6.cell? ⟨w4.heap.size, 4, none⟩ = some (.slice (some ⟨gx5, 0, none⟩) h.length h.length) := keep hb (by first | assumption | exact lay _ ‹_› | exact lay _ (lay _ ‹_›) | (simp; done) | exact lay _ (by simp) | (simp [*]; done))
  replace kx : w4.heap.size < w6.heap.size := World.block_lt_of_cell? _ _ qx0
  have qb0 : w6.cell? ⟨w5.heap.size, 0, none⟩ = some (.slice Ab1 ((R).1.1).length cb1) := keep hb (by first | assumption | exact lay _ ‹_› | exact lay _ (lay _ ‹_›) | (simp; done) | exact lay _ (by simp) | (simp [*]; done))
  have qb1 : w6.cell? ⟨w5.heap.size, 1, none⟩ = some (.slice Ab2 ((R).1.2.1).length cb2) := keep hb (by first | assumption | exact lay _ ‹_› | exact lay _ (lay _ ‹_›) | (simp; done) | exact lay _ (by simp) | (simp [*]; done))
  have qb2 : w6.cell? ⟨w5.heap.size, 2, none⟩ = some (.slice Ab3 ((R).1.2.2.1).length cb3) := keep hb (by first | assumption | exact lay _ ‹_› | exact lay _ (lay _ ‹_›) | (simp; done) | exact lay _ (by simp) | (simp [*]; done))
  have qb3 : w6.cell? ⟨w5.heap.size, 3, none⟩ = some (.slice Ab4 ((R).1.2.2.2.1).length cb4) := keep hb (by first | assumption | exact lay _ ‹_› | exact lay _ (lay _ ‹_›) | (simp; done) | exact lay _ (by simp) | (simp [*]; done))
  have qb4 : w6.cell? ⟨w5.heap.size, 4, none⟩ = some (.slice Ab5 ((R).1.2.2.2.2).length cb5) := keep hb (by first | assumption | exact lay _ ‹_› | exact lay _ (lay _ ‹_›) | (simp; done) | exact lay _ (by simp) | (simp [*]; done))
  have kb : w5.heap.size < w6.heap.size := World.block_lt_of_cell? _ _ qb0
  clear hb
  have hB6 : Below w.heap.size w w6 := Below.on' hB5 hb6
  have z6 : w5.heap.size + 1 ≤ w6.heap.size := by have hz := World.block_lt_of_cell? _ _ qb0; have hz2 := hb6.size; simp only at hz; omega
  replace hTa1 := hTa1.below hb6
  replace hTa2 := hTa2.below hb6
  replace hTa3 := hTa3.below hb6
  replace hTa4 := hTa4.below hb6
  replace hTa5 := hTa5.below hb6
  replace hTx1 := hTx1.below hb6
  replace hTx2 := hTx2.below hb6
  replace hTx3 := hTx3.below hb6
  replace hTx4 := hTx4.below hb6
  replace hTx5 := hTx5.below hb6
  replace hTb1 := hTb1.below hb6
  replace hTb2 := hTb2.below hb6
  replace hTb3 := hTb3.below hb6
  replace hTb4 := hTb4.below hb6
  replace hTb5 := hTb5.below hb6
  go_wp2_with fail
  refine wp_region_held_drew (S := fun w' => (w'.cell? ⟨w4.heap.size, 0, none⟩ = some (.slice (some ⟨gx1, 0, none⟩) f.length f.length) ∧ w'.cell? ⟨w4.heap.size, 1, none⟩ = some (.slice (some ⟨gx2, 0, none⟩) n.length n.length) ∧ w'.cell? ⟨w4.heap.size, 2, none⟩ = some (.slice (some ⟨gx3, 0, none⟩) s.length s.length) ∧ w'.cell? ⟨w4.heap.size, 3, none⟩ = some (.slice (some ⟨gx4, 0, none⟩) r.length r.length) ∧ w'.cell? ⟨w4.heap.size, 4, none⟩ = some (.slice (some ⟨gx5, 0, none⟩) h.length h.length)) ∧ (w'.cell? ⟨w.heap.size, 0, none⟩ = some (.slice Af f.length cf) ∧ w'.cell? ⟨w.heap.size, 1, none⟩ = some (.slice An n.length cn) ∧ w'.cell? ⟨w.heap.size, 2, none⟩ = some (.slice As s.length cs) ∧ w'.cell? ⟨w.heap.size, 3, none⟩ = some (.slice Ar r.length cr) ∧ w'.cell? ⟨w.heap.size, 4, none⟩ = some (.slice Ah h.length ch))) (by kernel_rfl) ⟨⟨qx0, qx1, qx2, qx3, qx4⟩, ⟨qp0, qp1, qp2, qp3, qp4⟩⟩ (fun hHeld => ?_)
  have hb7 : Below w6.heap.size w6 w6.drew := (Below.refl _ _).drew
  generalize w6.drew = w7 at hb7 hHeld ⊢
  replace qp0 : w7.cell? ⟨w.heap.size, 0, none⟩ = some (.slice Af f.length cf) := keep hb7 qp0
  replace qp1 : w7.cell? ⟨w.heap.size, 1, none⟩ = some (.slice An n.length cn) := keep hb7 qp1
  replace qp2 : w7.cell? ⟨w.heap.size, 2, none⟩ = some (.slice As s.length cs) := keep hb7 qp2
  replace qp3 : w7.cell? ⟨w.heap.size, 3, none⟩ = some (.slice Ar r.length cr) := keep hb7 qp3
  replace qp4 : w7.cell? ⟨w.heap.size, 4, none⟩ = some (.slice Ah h.length ch) := keep hb7 qp4
  replace kp : w.heap.size < w7.heap.size := World.block_lt_of_cell? _ _ qp0
  replace qa0 : w7.cell? ⟨w3.heap.size, 0, none⟩ = some (.slice Aa1 ((R).1.1).length ca1) := keep hb7 qa0
  replace qa1 : w7.cell? ⟨w3.heap.size, 1, none⟩ = some (.slice Aa2 ((R).1.2.1).length ca2) := keep hb7 qa1
  replace qa2 : w7.cell? ⟨w3.heap.size, 2, none⟩ = some (.slice Aa3 ((R).1.2.2.1).length ca3) := keep hb7 qa2
  replace qa3 : w7.cell? ⟨w3.heap.size, 3, none⟩ = some (.slice Aa4 ((R).1.2.2.2.1).length ca4) := keep hb7 qa3
  replace qa4 : w7.cell? ⟨w3.heap.size, 4, none⟩ = some (.slice Aa5 ((R).1.2.2.2.2).length ca5) := keep hb7 qa4
  replace ka : w3.heap.size < w7.heap.size := World.block_lt_of_cell? _ _ qa0
  replace qx0 : w7.cell? ⟨w4.heap.size, 0, none⟩ = some (.slice (some ⟨gx1, 0, none⟩) f.length f.length) := keep hb7 qx0
  replace qx1 : w7.cell? ⟨w4.heap.size, 1, none⟩ = some (.slice (some ⟨gx2, 0, none⟩) n.length n.length) := keep hb7 qx1
  replace qx2 : w7.cell? ⟨w4.heap.size, 2, none⟩ = some (.slice (some ⟨gx3, 0, none⟩) s.length s.length) := keep hb7 qx2
  replace qx3 : w7.cell? ⟨w4.heap.size, 3, none⟩ = some (.slice (some ⟨gx4, 0, none⟩) r.length r.length) := keep hb7 qx3
  replace qx4 : w7.cell? ⟨w4.heap.size, 4, none⟩ = some (.slice (some ⟨gx5, 0, none⟩) h.length h.length) := keep hb7 qx4
  replace kx : w4.heap.size < w7.heap.size := World.block_lt_of_cell? _ _ qx0
  replace qb0 : w7.cell? ⟨w5.heap.size, 0, none⟩ = some (.slice Ab1 ((R).1.1).length cb1) := keep hb7 qb0
  replace qb1 : w7.cell? ⟨w5.heap.size, 1, none⟩ = some (.slice Ab2 ((R).1.2.1).length cb2) := keep hb7 qb1
  replace qb2 : w7.cell? ⟨w5.heap.size, 2, none⟩ = some (.slice Ab3 ((R).1.2.2.1).length cb3) := keep hb7 qb2
  replace qb3 : w7.cell? ⟨w5.heap.size, 3, none⟩ = some (.slice Ab4 ((R).1.2.2.2.1).length cb4) := keep hb7 qb3
  replace qb4 : w7.cell? ⟨w5.heap.size, 4, none⟩ = some (.slice Ab5 ((R).1.2.2.2.2).length cb5) := keep hb7 qb4
  replace kb : w5.heap.size < w7.heap.size := World.block_lt_of_cell? _ _ qb0
  have hB7 : Below w.heap.size w w7 := Below.on' hB6 hb7
  have z7 : w6.heap.size ≤ w7.heap.size := hb7.size
  replace hTa1 := hTa1.below hb7
  replace hTa2 := hTa2.below hb7
  replace hTa3 := hTa3.below hb7
  replace hTa4 := hTa4.below hb7
  replace hTa5 := hTa5.below hb7
  replace hTx1 := hTx1.below hb7
  replace hTx2 := hTx2.below hb7
  replace hTx3 := hTx3.below hb7
  replace hTx4 := hTx4.below hb7
  replace hTx5 := hTx5.below hb7
  replace hTb1 := hTb1.below hb7
  replace hTb2 := hTb2.below hb7
  replace hTb3 := hTb3.below hb7
  replace hTb4 := hTb4.below hb7
  replace hTb5 := hTb5.below hb7
  change wpAnyH _ _ _ _ _ 5 #[false, false, false, false, false] _ _
  refine wpAnyH_takeL (i := 0) (v := .agg #[.slice (some ⟨gx1, 0, none⟩) f.length f.length, .slice (some ⟨gx2, 0, none⟩) n.length n.length, .slice (some ⟨gx3, 0, none⟩) s.length s.length, .slice (some ⟨gx4, 0, none⟩) r.length r.length, .slice (some ⟨gx5, 0, none⟩) h.length h.length]) rfl (by kernel_rfl) (by kernel_rfl) (by kernel_rfl) (fun _ _ _ h => h) (Or.inl ⟨by rfl, fun w' hSw => by obtain ⟨⟨z0, z1, z2, z3, z4⟩, z5, z6, z7, z8, z9⟩ := hSw; go_simp⟩) (by assumption) ?_
  simp only [Act.put, List.setIfInBounds_toArray, List.set_cons_zero, List.set_cons_succ]
  refine wpAnyH_takeL (i := 1) (v := .agg #[.slice Af f.length cf, .slice An n.length cn, .slice As s.length cs, .slice Ar r.length cr, .slice Ah h.length ch]) rfl (by kernel_rfl) (by kernel_rfl) (by kernel_rfl) (fun _ _ _ h => h) (Or.inl ⟨by rfl, fun w' hSw => by obtain ⟨⟨z0, z1, z2, z3, z4⟩, z5, z6, z7, z8, z9⟩ := hSw; go_simp⟩) (by assumption) ?_
  simp only [Act.put, List.setIfInBounds_toArray, List.set_cons_zero, List.set_cons_succ]
  refine wpAnyH_ready (rs := [2]) (by kernel_rfl) (by simp) ?_
  refine AllReadyH.consL rfl (fun K hK => ?_) AllReadyH.nil
  go_simp
  go_at_call 15
  refine (toEnds_any Af cf f An cn n As cs s Ar cr r Ah ch h _ hl'f (hSf.below hB7).all hl'n (hSn.below hB7).all hl's (hSs.below hB7).all hl'r (hSr.below hB7).all hl'h (hSh.below hB7).all).mono ?_
  rintro e w8 ⟨gy1, gy2, gy3, gy4, gy5, my1, my2, my3, my4, rfl, ⟨yy1, yy2, yy3, yy4, yy5⟩, hU1, hU2, hU3, hU4, hU5, hb⟩
  have hb8 : Below w7.heap.size w7 w8 := Below.on' (by go_grown) hb
  replace qp0 : w8.cell? ⟨w.heap.size, 0, none⟩ = some (.slice Af f.length cf) := keep hb (by first | assumption | exact lay _ ‹_› | exact lay _ (lay _ ‹_›) | (simp; done) | exact lay _ (by simp) | (simp [*]; done))
  replace qp1 : w8.cell? ⟨w.heap.size, 1, none⟩ = some (.slice An n.length cn) := keep hb (by first | assumption | exact lay _ ‹_› | exact lay _ (lay _ ‹_›) | (simp; done) | exact lay _ (by simp) | (simp [*]; done))
  replace qp2 : w8.cell? ⟨w.heap.size, 2, none⟩ = some (.slice As s.length cs) := keep hb (by first | assumption | exact lay _ ‹_› | exact lay _ (lay _ ‹_›) | (simp; done) | exact lay _ (by simp) | (simp [*]; done))
  replace qp3 : w8.cell? ⟨w.heap.size, 3, none⟩ = some (.slice Ar r.length cr) := keep hb (by first | assumption | exact lay _ ‹_› | exact lay _ (lay _ ‹_›) | (simp; done) | exact lay _ (by simp) | (simp [*]; done))
  replace qp4 : w8.cell? ⟨w.heap.size, 4, none⟩ = some (.slice Ah h.length ch) := keep hb (by first | assumption | exact lay _ ‹_› | exact lay _ (lay _ ‹_›) | (simp; done) | exact lay _ (by simp) | (simp [*]; done))
  replace kp : w.heap.size < w8.heap.size := World.block_lt_of_cell? _ _ qp0
  replace qa0 : w8.cell? ⟨w3.heap.size, 0, none⟩ = some (.slice Aa1 ((R).1.1).length ca1) := keep hb (by first | assumption | exact lay _ ‹_› | exact lay _ (lay _ ‹_›) | (simp; done) | exact lay _ (by simp) | (simp [*]; done))
  replace qa1 : w8.cell? ⟨w3.heap.size, 1, none⟩ = some (.slice Aa2 ((R).1.2.1).length ca2) := keep hb (by first | assumption | exact lay _ ‹_› | exact lay _ (lay _ ‹_›) | (simp; done) | exact lay _ (by simp) | (simp [*]; done))
  replace qa2 : w8.cell? ⟨w3.heap.size, 2, none⟩ = some (.slice Aa3 ((R).1.2.2.1).length ca3) := keep hb (by first | assumption | exact lay _ ‹_› | exact lay _ (lay _ ‹_›) | (simp; done) | exact lay _ (by simp) | (simp [*]; done))
  replace qa3 : w8.cell? ⟨w3.heap.size, 3, none⟩ = some (.slice Aa4 ((R).1.2.2.2.1).length ca4) := keep hb (by first | assumption | exact lay _ ‹_› | exact lay _ (lay _ ‹_›) | (simp; done) | exact lay _ (by simp) | (simp [*]; done))
  replace qa4 : w8.cell? ⟨w3.heap.size, 4, none⟩ = some (.slice Aa5 ((R).1.2.2.2.2).length ca5) := keep hb (by first | assumption | exact lay _ ‹_› | exact lay _ (lay _ ‹_›) | (simp; done) | exact lay _ (by simp) | (simp [*]; done))
  replace ka : w3.heap.size < w8.heap.size := World.block_lt_of_cell? _ _ qa0
  replace qx0 : w8.cell? ⟨w4.heap.size, 0, none⟩ = some (.slice (some ⟨gx1, 0, none⟩) f.length f.length) := keep hb (by first | assumption | exact lay _ ‹_› | exact lay _ (lay _ ‹_›) | (simp; done) | exact lay _ (by simp) | (simp [*]; done))
  replace qx1 : w8.cell? ⟨w4.heap.size, 1, none⟩ = some (.slice (some ⟨gx2, 0, none⟩) n.length n.length) := keep hb (by first | assumption | exact lay _ ‹_› | exact lay _ (lay _ ‹_›) | (simp; done) | exact lay _ (by simp) | (simp [*]; done))
  replace qx2 : w8.cell? ⟨w4.heap.size, 2, none⟩ = some (.slice (some ⟨gx3, 0, none⟩) s.length s.length) := keep hb (by first | assumption | exact lay _ ‹_› | exact lay _ (lay _ ‹_›) | (simp; done) | exact lay _ (by simp) | (simp [*]; done))
  replace qx3 : w8.cell? ⟨w4.heap.size, 3, none⟩ = some (.slice (some ⟨gx4, 0, none⟩) r.length r.length) := keep hb (by first | assumption | exact lay _ ‹_› | exact lay _ (lay _ ‹_›) | (simp; done) | exact lay _ (by simp) | (simp [*]; done))
  replace qx4 : w8.cell? ⟨w4.heap.size, 4, none⟩ = some (.slice (some ⟨gx5, 0, none⟩) h.length h.length) := keep hb (by first | assumption | exact lay _ ‹_› | exact lay _ (lay _ ‹_›) | (simp; done) | exact lay _ (by simp) | (simp [*]; done))
  replace kx : w4.heap.size < w8.heap.size := World.block_lt_of_cell? _ _ qx0
  replace qb0 : w8.cell? ⟨w5.heap.size, 0, none⟩ = some (.slice Ab1 ((R).1.1).length cb1) := keep hb (by first | assumption | exact lay _ ‹_› | exact lay _ (lay _ ‹_›) | (simp; done) | exact lay _ (by simp) | (simp [*]; done))
  replace qb1 : w8.cell? ⟨w5.heap.size, 1, none⟩ = some (.slice Ab2 ((R).1.2.1).length cb2) := keep hb (by first | assumption | exact lay _ ‹_› | exact lay _ (lay _ ‹_›) | (simp; done) | exact lay _ (by simp) | (simp [*]; done))
  replace qb2 : w8.cell? ⟨w5.heap.size, 2, none⟩ = some (.slice Ab3 ((R).1.2.2.1).length cb3) := keep hb (by first | assumption | exact lay _ ‹_› | exact lay _ (lay _ ‹_›) | (simp; done) | exact lay _ (by simp) | (simp [*]; done))
  replace qb3 : w8.cell? ⟨w5.heap.size, 3, none⟩ = some (.slice Ab4 ((R).1.2.2.2.1).length cb4) := keep hb (by first | assumption | exact lay _ ‹_› | exact lay _ (lay _ ‹_›) | (simp; done) | exact lay _ (by simp) | (simp [*]; done))
  replace qb4 : w8.cell? ⟨w5.heap.size, 4, none⟩ = some (.slice Ab5 ((R).1.2.2.2.2).length cb5) := keep hb (by first | assumption | exact lay _ ‹_› | exact lay _ (lay _ ‹_›) | (simp; done) | exact lay _ (by simp) | (simp [*]; done))
  replace kb : w5.heap.size < w8.heap.size := World.block_lt_of_cell? _ _ qb0
  clear hb
  have hB8 : Below w.heap.size w w8 := Below.on' hB7 hb8
  have z8 : w7.heap.size + 0 ≤ w8.heap.size := by have hz2 := hb8.size; omega
  replace hTa1 := hTa1.below hb8
  replace hTa2 := hTa2.below hb8
  replace hTa3 := hTa3.below hb8
  replace hTa4 := hTa4.below hb8
  replace hTa5 := hTa5.below hb8
  replace hTx1 := hTx1.below hb8
  replace hTx2 := hTx2.below hb8
  replace hTx3 := hTx3.below hb8
  replace hTx4 := hTx4.below hb8
  replace hTx5 := hTx5.below hb8
  replace hTb1 := hTb1.below hb8
  replace hTb2 := hTb2.below hb8
  replace hTb3 := hTb3.below hb8
  replace hTb4 := hTb4.below hb8
  replace hTb5 := hTb5.below hb8
  have zzy : w7.heap.size ≤ my1 := by have h := yy1; first | omega | (simp at h; omega)
  have hTy1 := hU1.mono (lo' := w7.heap.size) (hi' := my1) (by first | exact Nat.le_refl _ | (simp; done) | (simp; omega)) (Nat.le_refl _) (by omega)
  have hTy2 := hU2
  have hTy3 := hU3
  have hTy4 := hU4
  have hTy5 := hU5
  clear hU1 hU2 hU3 hU4 hU5
  go_simp
  refine hK.out _ _ ⟨⟨qx0, qx1, qx2, qx3, qx4⟩, ⟨qp0, qp1, qp2, qp3, qp4⟩⟩ (fun hHeld => ?_)
  clear hK K
  simp only [List.setIfInBounds_toArray, List.set_cons_zero, List.set_cons_succ]
  refine wpAnyH_ready (rs := [3]) (by kernel_rfl) (by simp) ?_
  refine AllReadyH.consL rfl (fun K hK => ?_) AllReadyH.nil
  go_simp
  go_at_call 17
  refine (eqEnds_same _ _ _ _ _ _ _ _ _ _ _ _ _ _ _ _ _ _ _ _ _ _ _ _ _ _ _ _ _ _ _ _ _ _ _ _ _ _ _ _ _ _ _ _ _ _ hl'f hTx1 hTy1 hl'n hTx2 hTy2 hl's hTx3 hTy3 hl'r hTx4 hTy4 hl'h hTx5 hTy5).mono ?_
  rintro e w9 ⟨rfl, hb⟩
  have hb9 : Below w8.heap.size w8 w9 := Below.on' (by go_grown) hb
  replace qp0 : w9.cell? ⟨w.heap.size, 0, none⟩ = some (.slice Af f.length cf) := keep hb (by first | assumption | exact lay _ ‹_› | exact lay _ (lay _ ‹_›) | (simp; done) | exact lay _ (by simp) | (simp [*]; done))
  replace qp1 : w9.cell? ⟨w.heap.size, 1, none⟩ = some (.slice An n.length cn) := keep hb (by first | assumption | exact lay _ ‹_› | exact lay _ (lay _ ‹_›) | (simp; done) | exact lay _ (by simp) | (simp [*]; done))
  replace qp2 : w9.cell? ⟨w.heap.size, 2, none⟩ = some (.slice As s.length cs) := keep hb (by first | assumption | exact lay _ ‹_› | exact lay _ (lay _ ‹_›) | (simp; done) | exact lay _ (by simp) | (simp [*]; done))
  replace qp3 : w9.cell? ⟨w.heap.size, 3, none⟩ = some (.slice Ar r.length cr) := keep hb (by first | assumption | exact lay _ ‹_› | exact lay _ (lay _ ‹_›) | (simp; done) | exact lay _ (by simp) | (simp [*]; done))
  replace qp4 : w9.cell? ⟨w.heap.size, 4, none⟩ = some (.slice Ah h.length ch) := keep hb (by first | assumption | exact lay _ ‹_› | exact lay _ (lay _ ‹_›) | (simp; done) | exact lay _ (by simp) | (simp [*]; done))
  replace kp : w.heap.size < w9.heap.size := World.block_lt_of_cell? _ _ qp0
  replace qa0 : w9.cell? ⟨w3.heap.size, 0, none⟩ = some (.slice Aa1 ((R).1.1).length ca1) := keep hb (by first | assumption | exact lay _ ‹_› | exact lay _ (lay _ ‹_›) | (simp; done) | exact lay _ (by simp) | (simp [*]; done))
  replace qa1 : w9.cell? ⟨w3.heap.size, 1, none⟩ = some (.slice Aa2 ((R).1.2.1).length ca2) := keep hb (by first | assumption | exact lay _ ‹_› | exact lay _ (lay _ ‹_›) | (simp; done) | exact lay _ (by simp) | (simp [*]; done))
  replace qa2 : w9.cell? ⟨w3.heap.size, 2, none⟩ = some (.slice Aa3 ((R).1.2.2.1).length ca3) := keep hb (by first | assumption | exact lay _ ‹_› | exact lay _ (lay _ ‹_›) | (simp; done) | exact lay _ (by simp) | (simp [*]; done))
  replace qa3 : w9.cell? ⟨w3.heap.size, 3, none⟩ = some (.slice Aa4 ((R).1.2.2.2.1).length ca4) := keep hb (by first | assumption | exact lay _ ‹_› | exact lay _ (lay _ ‹_›) | (simp; done) | exact lay _ (by simp) | (simp [*]; done))
  replace qa4 : w9.cell? ⟨w3.heap.size, 4, none⟩ = some (.slice Aa5 ((R).1.2.2.2.2).length ca5) := keep hb (by first | assumption | exact lay _ ‹_› | exact lay _ (lay _ ‹_›) | (simp; done) | exact lay _ (by simp) | (simp [*]; done))
  replace ka : w3.heap.size < w9.heap.size := World.block_lt_of_cell? _ _ qa0
  replace qx0 : w9.cell? ⟨w4.heap.size, 0, none⟩ = some (.slice (some ⟨gx1, 0, none⟩) f.length f.length) := keep hb (by first | assumption | exact lay _ ‹_› | exact lay _ (lay _ ‹_›) | (simp; done) | exact lay _ (by simp) | (simp [*]; done))
  replace qx1 : w9.cell? ⟨w4.heap.size, 1, none⟩ = some (.slice (some ⟨gx2, 0, none⟩) n.length n.length) := keep hb (by first | assumption | exact lay _ ‹_› | exact lay _ (lay _ ‹_›) | (simp; done) | exact lay _ (by simp) | (simp [*]; done))
  replace qx2 : w9.cell? ⟨w4.heap.size, 2, none⟩ = some (.slice (some ⟨gx3, 0, none⟩) s.length s.length) := keep hb (by first | assumption | exact lay _ ‹_› | exact lay _ (lay _ ‹_›) | (simp; done) | exact lay _ (by simp) | (simp [*]; done))
  replace qx3 : w9.cell? ⟨w4.heap.size, 3, none⟩ = some (.slice (some ⟨gx4, 0, none⟩) r.length r.length) := keep hb (by first | assumption | exact lay _ ‹_› | exact lay _ (lay _ ‹_›) | (simp; done) | exact lay _ (by simp) | (simp [*]; done))
  replace qx4 : w9.cell? ⟨w4.heap.size, 4, none⟩ = some (.slice (some ⟨gx5, 0, none⟩) h.length h.length) := keep hb (by first | assumption | exact lay _ ‹_› | exact lay _ (lay _ ‹_›) | (simp; done) | exact lay _ (by simp) | (simp [*]; done))
  replace kx : w4.heap.size < w9.heap.size := World.block_lt_of_cell? _ _ qx0
  replace qb0 : w9.cell? ⟨w5.heap.size, 0, none⟩ = some (.slice Ab1 ((R).1.1).length cb1) := keep hb (by first | assumption | exact lay _ ‹_› | exact lay _ (lay _ ‹_›) | (simp; done) | exact lay _ (by simp) | (simp [*]; done))
  replace qb1 : w9.cell? ⟨w5.heap.size, 1, none⟩ = some (.slice Ab2 ((R).1.2.1).length cb2) := keep hb (by first | assumption | exact lay _ ‹_› | exact lay _ (lay _ ‹_›) | (simp; done) | exact lay _ (by simp) | (simp [*]; done))
  replace qb2 : w9.cell? ⟨w5.heap.size, 2, none⟩ = some (.slice Ab3 ((R).1.2.2.1).length cb3) := keep hb (by first | assumption | exact lay _ ‹_› | exact lay _ (lay _ ‹_›) | (simp; done) | exact lay _ (by simp) | (simp [*]; done))
  replace qb3 : w9.cell? ⟨w5.heap.size, 3, none⟩ = some (.slice Ab4 ((R).1.2.2.2.1).length cb4) := keep hb (by first | assumption | exact lay _ ‹_› | exact lay _ (lay _ ‹_›) | (simp; done) | exact lay _ (by simp) | (simp [*]; done))
  replace qb4 : w9.cell? ⟨w5.heap.size, 4, none⟩ = some (.slice Ab5 ((R).1.2.2.2.2).length cb5) := keep hb (by first | assumption | exact lay _ ‹_› | exact lay _ (lay _ ‹_›) | (simp; done) | exact lay _ (by simp) | (simp [*]; done))
  replace kb : w5.heap.size < w9.heap.size := World.block_lt_of_cell? _ _ qb0
  clear hb
  have hB9 : Below w.heap.size w w9 := Below.on' hB8 hb9
  have z9 : w8.heap.size + 0 ≤ w9.heap.size := by have hz2 := hb9.size; omega
  replace hTa1 := hTa1.below hb9
  replace hTa2 := hTa2.below hb9
  replace hTa3 := hTa3.below hb9
  replace hTa4 := hTa4.below hb9
  replace hTa5 := hTa5.below hb9
  replace hTx1 := hTx1.below hb9
  replace hTx2 := hTx2.below hb9
  replace hTx3 := hTx3.below hb9
  replace hTx4 := hTx4.below hb9
  replace hTx5 := hTx5.below hb9
  replace hTb1 := hTb1.below hb9
  replace hTb2 := hTb2.below hb9
  replace hTb3 := hTb3.below hb9
  replace hTb4 := hTb4.below hb9
  replace hTb5 := hTb5.below hb9
  replace hTy1 := hTy1.below hb9
  replace hTy2 := hTy2.below hb9
  replace hTy3 := hTy3.below hb9
  replace hTy4 := hTy4.below hb9
  replace hTy5 := hTy5.below hb9
  clear hTy1
  clear hTy2
  clear hTy3
  clear hTy4
  clear hTy5
  go_simp
  refine hK.out _ _ ⟨⟨qx0, qx1, qx2, qx3, qx4⟩, ⟨qp0, qp1, qp2, qp3, qp4⟩⟩ (fun hHeld => ?_)
  clear hK K
  simp only [List.setIfInBounds_toArray, List.set_cons_zero, List.set_cons_succ]
  refine wpAnyH_takeL (i := 4) (v := .bool false) rfl (by kernel_rfl) (by kernel_rfl) (by kernel_rfl) (fun _ _ _ h => h) (Or.inl ⟨by rfl, fun w' hSw => by obtain ⟨⟨z0, z1, z2, z3, z4⟩, z5, z6, z7, z8, z9⟩ := hSw; go_simp⟩) (by assumption) ?_
  simp only [Act.put, List.setIfInBounds_toArray, List.set_cons_zero, List.set_cons_succ]
  refine wpAnyH_done (by kernel_rfl) ?_ _
  go_wp2_with fail
  refine (markEnds_any _ _ _ _ _ _ _ _ _ _ _ _ _ _ _ _ _ _ _ _ _ _ _ _ _ _ _ hl'f hTx1 hl'n hTx2 hl's hTx3 hl'r hTx4 hl'h hTx5 (by omega) (by omega) (w3.heap.size + 1) (w4.heap.size) (mx2) (w4.heap.size) (by omega) (by omega) (by omega) (by omega) (by omega) (by omega) (by omega) (by omega) (by omega) (by omega) (by omega) (by omega) (by omega)).mono ?_
  rintro e w10 ⟨rfl, hM1, hM2, hM3, hM4, hM5, hF⟩
  replace qp0 := (World.cell?_of_block (hF.block _ (World.block_lt_of_cell? _ _ qp0) (by simp only; omega))).trans qp0
  replace qp1 := (World.cell?_of_block (hF.block _ (World.block_lt_of_cell? _ _ qp1) (by simp only; omega))).trans qp1
  replace qp2 := (World.cell?_of_block (hF.block _ (World.block_lt_of_cell? _ _ qp2) (by simp only; omega))).trans qp2
  replace qp3 := (World.cell?_of_block (hF.block _ (World.block_lt_of_cell? _ _ qp3) (by simp only; omega))).trans qp3
  replace qp4 := (World.cell?_of_block (hF.block _ (World.block_lt_of_cell? _ _ qp4) (by simp only; omega))).trans qp4
  replace kp : w.heap.size < w10.heap.size := World.block_lt_of_cell? _ _ qp0
  replace qa0 := (World.cell?_of_block (hF.block _ (World.block_lt_of_cell? _ _ qa0) (by simp only; omega))).trans qa0
  replace qa1 := (World.cell?_of_block (hF.block _ (World.block_lt_of_cell? _ _ qa1) (by simp only; omega))).trans qa1
  replace qa2 := (World.cell?_of_block (hF.block _ (World.block_lt_of_cell? _ _ qa2) (by simp only; omega))).trans qa2
  replace qa3 := (World.cell?_of_block (hF.block _ (World.block_lt_of_cell? _ _ qa3) (by simp only; omega))).trans qa3
  replace qa4 := (World.cell?_of_block (hF.block _ (World.block_lt_of_cell? _ _ qa4) (by simp only; omega))).trans qa4
  replace ka : w3.heap.size < w10.heap.size := World.block_lt_of_cell? _ _ qa0
  replace qx0 := (World.cell?_of_block (hF.block _ (World.block_lt_of_cell? _ _ qx0) (by simp only; omega))).trans qx0
  replace qx1 := (World.cell?_of_block (hF.block _ (World.block_lt_of_cell? _ _ qx1) (by simp only; omega))).trans qx1
  replace qx2 := (World.cell?_of_block (hF.block _ (World.block_lt_of_cell? _ _ qx2) (by simp only; omega))).trans qx2
  replace qx3 := (World.cell?_of_block (hF.block _ (World.block_lt_of_cell? _ _ qx3) (by simp only; omega))).trans qx3
  replace qx4 := (World.cell?_of_block (hF.block _ (World.block_lt_of_cell? _ _ qx4) (by simp only; omega))).trans qx4
  replace kx : w4.heap.size < w10.heap.size := World.block_lt_of_cell? _ _ qx0
  replace qb0 := (World.cell?_of_block (hF.block _ (World.block_lt_of_cell? _ _ qb0) (by simp only; omega))).trans qb0
  replace qb1 := (World.cell?_of_block (hF.block _ (World.block_lt_of_cell? _ _ qb1) (by simp only; omega))).trans qb1
  replace qb2 := (World.cell?_of_block (hF.block _ (World.block_lt_of_cell? _ _ qb2) (by simp only; omega))).trans qb2
  replace qb3 := (World.cell?_of_block (hF.block _ (World.block_lt_of_cell? _ _ qb3) (by simp only; omega))).trans qb3
  replace qb4 := (World.cell?_of_block (hF.block _ (World.block_lt_of_cell? _ _ qb4) (by simp only; omega))).trans qb4
  replace kb : w5.heap.size < w10.heap.size := World.block_lt_of_cell? _ _ qb0
  have hB10 : Below w.heap.size w w10 := hB9.trans (hF.below (by omega) (by omega))
  have z10 : w9.heap.size ≤ w10.heap.size := hF.size
  replace hTa1 := hTa1.fr hF (by omega)
  replace hTa2 := hTa2.fr hF (by omega)
  replace hTa3 := hTa3.fr hF (by omega)
  replace hTa4 := hTa4.fr hF (by omega)
  replace hTa5 := hTa5.fr hF (by omega)
  replace hTb1 := hTb1.fr hF (by omega)
  replace hTb2 := hTb2.fr hF (by omega)
  replace hTb3 := hTb3.fr hF (by omega)
  replace hTb4 := hTb4.fr hF (by omega)
  replace hTb5 := hTb5.fr hF (by omega)
  clear hF
  replace hTx1 := hM1
  replace hTx2 := hM2
  replace hTx3 := hM3
  replace hTx4 := hM4
  replace hTx5 := hM5
  clear hM1 hM2 hM3 hM4 hM5
  clear hTx1
  clear hTx2
  clear hTx3
  clear hTx4
  clear hTx5
  go_wp2_with fail
  refine (eqEnds_same _ _ _ _ _ _ _ _ _ _ _ _ _ _ _ _ _ _ _ _ _ _ _ _ _ _ _ _ _ _ _ _ _ _ _ _ _ _ _ _ _ _ _ _ _ _ hLR1 hTb1 hTa1 hLR2 hTb2 hTa2 hLR3 hTb3 hTa3 hLR4 hTb4 hTa4 hLR5 hTb5 hTa5).mono ?_
  rintro e w11 ⟨rfl, hb⟩
  have hb11 : Below w10.heap.size w10 w11 := Below.on' (by go_grown) hb
  replace qp0 : w11.cell? ⟨w.heap.size, 0, none⟩ = some (.slice Af f.length cf) := keep hb (by first | assumption | exact lay _ ‹_› | exact lay _ (lay _ ‹_›) | (simp; done) | exact lay _ (by simp) | (simp [*]; done))
  replace qp1 : w11.cell? ⟨w.heap.size, 1, none⟩ = some (.slice An n.length cn) := keep hb (by first | assumption | exact lay _ ‹_› | exact lay _ (lay _ ‹_›) | (simp; done) | exact lay _ (by simp) | (simp [*]; done))
  replace qp2 : w11.cell? ⟨w.heap.size, 2, none⟩ = some (.slice As s.length cs) := keep hb (by first | assumption | exact lay _ ‹_› | exact lay _ (lay _ ‹_›) | (simp; done) | exact lay _ (by simp) | (simp [*]; done))
  replace qp3 : w11.cell? ⟨w.heap.size, 3, none⟩ = some (.slice Ar r.length cr) := keep hb (by first | assumption | exact lay _ ‹_› | exact lay _ (lay _ ‹_›) | (simp; done) | exact lay _ (by simp) | (simp [*]; done))
  replace qp4 : w11.cell? ⟨w.heap.size, 4, none⟩ = some (.slice Ah h.length ch) := keep hb (by first | assumption | exact lay _ ‹_› | exact lay _ (lay _ ‹_›) | (simp; done) | exact lay _ (by simp) | (simp [*]; done))
  replace kp : w.heap.size < w11.heap.size := World.block_lt_of_cell? _ _ qp0
  replace qa0 : w11.cell? ⟨w3.heap.size, 0, none⟩ = some (.slice Aa1 ((R).1.1).length ca1) := keep hb (by first | assumption | exact lay _ ‹_› | exact lay _ (lay _ ‹_›) | (simp; done) | exact lay _ (by simp) | (simp [*]; done))
  replace qa1 : w11.cell? ⟨w3.heap.size, 1, none⟩ = some (.slice Aa2 ((R).1.2.1).length ca2) := keep hb (by first | assumption | exact lay _ ‹_› | exact lay _ (lay _ ‹_›) | (simp; done) | exact lay _ (by simp) | (simp [*]; done))
  replace qa2 : w11.cell? ⟨w3.heap.size, 2, none⟩ = some (.slice Aa3 ((R).1.2.2.1).length ca3) := keep hb (by first | assumption | exact lay _ ‹_› | exact lay _ (lay _ ‹_›) | (simp; done) | exact lay _ (by simp) | (simp [*]; done))
  replace qa3 : w11.cell? ⟨w3.heap.size, 3, none⟩ = some (.slice Aa4 ((R).1.2.2.2.1).length ca4) := keep hb (by first | assumption | exact lay _ ‹_› | exact lay _ (lay _ ‹_›) | (simp; done) | exact lay _ (by simp) | (simp [*]; done))
  replace qa4 : w11.cell? ⟨w3.heap.size, 4, none⟩ = some (.slice Aa5 ((R).1.2.2.2.2).length ca5) := keep hb (by first | assumption | exact lay _ ‹_› | exact lay _ (lay _ ‹_›) | (simp; done) | exact lay _ (by simp) | (simp [*]; done))
  replace ka : w3.heap.size < w11.heap.size := World.block_lt_of_cell? _ _ qa0
  replace qx0 : w11.cell? ⟨w4.heap.size, 0, none⟩ = some (.slice (some ⟨gx1, 0, none⟩) f.length f.length) := keep hb (by first | assumption | exact lay _ ‹_› | exact lay _ (lay _ ‹_›) | (simp; done) | exact lay _ (by simp) | (simp [*]; done))
  replace qx1 : w11.cell? ⟨w4.heap.size, 1, none⟩ = some (.slice (some ⟨gx2, 0, none⟩) n.length n.length) := keep hb (by first | assumption | exact lay _ ‹_› | exact lay _ (lay _ ‹_›) | (simp; done) | exact lay _ (by simp) | (simp [*]; done))
  replace qx2 : w11.cell? ⟨w4.heap.size, 2, none⟩ = some (.slice (some ⟨gx3, 0, none⟩) s.length s.length) := keep hb (by first | assumption | exact lay _ ‹_› | exact lay _ (lay _ ‹_›) | (simp; done) | exact lay _ (by simp) | (simp [*]; done))
  replace qx3 : w11.cell? ⟨w4.heap.size, 3, none⟩ = some (.slice (some ⟨gx4, 0, none⟩) r.length r.length) := keep hb (by first | assumption | exact lay _ ‹_› | exact lay _ (lay _ ‹_›) | (simp; done) | exact lay _ (by simp) | (simp [*]; done))
  replace qx4 : w11.cell? ⟨w4.heap.size, 4, none⟩ = some (.slice (some ⟨gx5, 0, none⟩) h.length h.length) := keep hb (by first | assumption | exact lay _ ‹_› | exact lay _ (lay _ ‹_›) | (simp; done) | exact lay _ (by simp) | (simp [*]; done))
  replace kx : w4.heap.size < w11.heap.size := World.block_lt_of_cell? _ _ qx0
  replace qb0 : w11.cell? ⟨w5.heap.size, 0, none⟩ = some (.slice Ab1 ((R).1.1).length cb1) := keep hb (by first | assumption | exact lay _ ‹_› | exact lay _ (lay _ ‹_›) | (simp; done) | exact lay _ (by simp) | (simp [*]; done))
  replace qb1 : w11.cell? ⟨w5.heap.size, 1, none⟩ = some (.slice Ab2 ((R).1.2.1).length cb2) := keep hb (by first | assumption | exact lay _ ‹_› | exact lay _ (lay _ ‹_›) | (simp; done) | exact lay _ (by simp) | (simp [*]; done))
  replace qb2 : w11.cell? ⟨w5.heap.size, 2, none⟩ = some (.slice Ab3 ((R).1.2.2.1).length cb3) := keep hb (by first | assumption | exact lay _ ‹_› | exact lay _ (lay _ ‹_›) | (simp; done) | exact lay _ (by simp) | (simp [*]; done))
  replace qb3 : w11.cell? ⟨w5.heap.size, 3, none⟩ = some (.slice Ab4 ((R).1.2.2.2.1).length cb4) := keep hb (by first | assumption | exact lay _ ‹_› | exact lay _ (lay _ ‹_›) | (simp; done) | exact lay _ (by simp) | (simp [*]; done))
  replace qb4 : w11.cell? ⟨w5.heap.size, 4, none⟩ = some (.slice Ab5 ((R).1.2.2.2.2).length cb5) := keep hb (by first | assumption | exact lay _ ‹_› | exact lay _ (lay _ ‹_›) | (simp; done) | exact lay _ (by simp) | (simp [*]; done))
  replace kb : w5.heap.size < w11.heap.size := World.block_lt_of_cell? _ _ qb0
  clear hb
  have hB11 : Below w.heap.size w w11 := Below.on' hB10 hb11
  have z11 : w10.heap.size + 0 ≤ w11.heap.size := by have hz2 := hb11.size; omega
  replace hTa1 := hTa1.below hb11
  replace hTa2 := hTa2.below hb11
  replace hTa3 := hTa3.below hb11
  replace hTa4 := hTa4.below hb11
  replace hTa5 := hTa5.below hb11
  replace hTb1 := hTb1.below hb11
  replace hTb2 := hTb2.below hb11
  replace hTb3 := hTb3.below hb11
  replace hTb4 := hTb4.below hb11
  replace hTb5 := hTb5.below hb11
  go_wp2_with fail
  refine (markEnds_any _ _ _ _ _ _ _ _ _ _ _ _ _ _ _ _ _ _ _ _ _ _ _ _ _ _ _ hLR1 hTb1 hLR2 hTb2 hLR3 hTb3 hLR4 hTb4 hLR5 hTb5 (by omega) (by omega) (w4.heap.size + 1) (w5.heap.size) (lcb) (hcb) (by omega) (by omega) (by omega) (by omega) (by omega) (by omega) (by omega) (by omega) (by omega) (by omega) (by omega) (by omega) (by omega)).mono ?_
  rintro e w12 ⟨rfl, hM1, hM2, hM3, hM4, hM5, hF⟩
  replace qp0 := (World.cell?_of_block (hF.block _ (World.block_lt_of_cell? _ _ qp0) (by simp only; omega))).trans qp0
  replace qp1 := (World.cell?_of_block (hF.block _ (World.block_lt_of_cell? _ _ qp1) (by simp only; omega))).trans qp1
  replace qp2 := (World.cell?_of_block (hF.block _ (World.block_lt_of_cell? _ _ qp2) (by simp only; omega))).trans qp2
  replace qp3 := (World.cell?_of_block (hF.block _ (World.block_lt_of_cell? _ _ qp3) (by simp only; omega))).trans qp3
  replace qp4 := (World.cell?_of_block (hF.block _ (World.block_lt_of_cell? _ _ qp4) (by simp only; omega))).trans qp4
  replace kp : w.heap.size < w12.heap.size := World.block_lt_of_cell? _ _ qp0
  replace qa0 := (World.cell?_of_block (hF.block _ (World.block_lt_of_cell? _ _ qa0) (by simp only; omega))).trans qa0
  replace qa1 := (World.cell?_of_block (hF.block _ (World.block_lt_of_cell? _ _ qa1) (by simp only; omega))).trans qa1
  replace qa2 := (World.cell?_of_block (hF.block _ (World.block_lt_of_cell? _ _ qa2) (by simp only; omega))).trans qa2
  replace qa3 := (World.cell?_of_block (hF.block _ (World.block_lt_of_cell? _ _ qa3) (by simp only; omega))).trans qa3
  replace qa4 := (World.cell?_of_block (hF.block _ (World.block_lt_of_cell? _ _ qa4) (by simp only; omega))).trans qa4
  replace ka : w3.heap.size < w12.heap.size := World.block_lt_of_cell? _ _ qa0
  replace qx0 := (World.cell?_of_block (hF.block _ (World.block_lt_of_cell? _ _ qx0) (by simp only; omega))).trans qx0
  replace qx1 := (World.cell?_of_block (hF.block _ (World.block_lt_of_cell? _ _ qx1) (by simp only; omega))).trans qx1
  replace qx2 := (World.cell?_of_block (hF.block _ (World.block_lt_of_cell? _ _ qx2) (by simp only; omega))).trans qx2
  replace qx3 := (World.cell?_of_block (hF.block _ (World.block_lt_of_cell? _ _ qx3) (by simp only; omega))).trans qx3
  replace qx4 := (World.cell?_of_block (hF.block _ (World.block_lt_of_cell? _ _ qx4) (by simp only; omega))).trans qx4
  replace kx : w4.heap.size < w12.heap.size := World.block_lt_of_cell? _ _ qx0
  replace qb0 := (World.cell?_of_block (hF.block _ (World.block_lt_of_cell? _ _ qb0) (by simp only; omega))).trans qb0
  replace qb1 := (World.cell?_of_block (hF.block _ (World.block_lt_of_cell? _ _ qb1) (by simp only; omega))).trans qb1
  replace qb2 := (World.cell?_of_block (hF.block _ (World.block_lt_of_cell? _ _ qb2) (by simp only; omega))).trans qb2
  replace qb3 := (World.cell?_of_block (hF.block _ (World.block_lt_of_cell? _ _ qb3) (by simp only; omega))).trans qb3
  replace qb4 := (World.cell?_of_block (hF.block _ (World.block_lt_of_cell? _ _ qb4) (by simp only; omega))).trans qb4
  replace kb : w5.heap.size < w12.heap.size := World.block_lt_of_cell? _ _ qb0
  have hB12 : Below w.heap.size w w12 := hB11.trans (hF.below (by omega) (by omega))
  have z12 : w11.heap.size ≤ w12.heap.size := hF.size
  replace hTa1 := hTa1.fr hF (by omega)
  replace hTa2 := hTa2.fr hF (by omega)
  replace hTa3 := hTa3.fr hF (by omega)
  replace hTa4 := hTa4.fr hF (by omega)
  replace hTa5 := hTa5.fr hF (by omega)
  clear hF
  replace hTb1 := hM1
  replace hTb2 := hM2
  replace hTb3 := hM3
  replace hTb4 := hM4
  replace hTb5 := hM5
  clear hM1 hM2 hM3 hM4 hM5
  go_wp2_with fail
  refine (heldEnds_any _ _ _ _ _ _ _ _ _ _ _ _ _ _ _ _ _ _ _ _ _ _ _ _ _ _ _ hLR1 hTb1 hLR2 hTb2 hLR3 hTb3 hLR4 hTb4 hLR5 hTb5 (by omega) (by omega)).mono ?_
  rintro e w13 ⟨rfl, hb⟩
  have hb13 : Below w12.heap.size w12 w13 := Below.on' (by go_grown) hb
  replace qp0 : w13.cell? ⟨w.heap.size, 0, none⟩ = some (.slice Af f.length cf) := keep hb (by first | assumption | exact lay _ ‹_› | exact lay _ (lay _ ‹_›) | (simp; done) | exact lay _ (by simp) | (simp [*]; done))
  replace qp1 : w13.cell? ⟨w.heap.size, 1, none⟩ = some (.slice An n.length cn) := keep hb (by first | assumption | exact lay _ ‹_› | exact lay _ (lay _ ‹_›) | (simp; done) | exact lay _ (by simp) | (simp [*]; done))
  replace qp2 : w13.cell? ⟨w.heap.size, 2, none⟩ = some (.slice As s.length cs) := keep hb (by first | assumption | exact lay _ ‹_› | exact lay _ (lay _ ‹_›) | (simp; done) | exact lay _ (by simp) | (simp [*]; done))
  replace qp3 : w13.cell? ⟨w.heap.size, 3, none⟩ = some (.slice Ar r.length cr) := keep hb (by first | assumption | exact lay _ ‹_› | exact lay _ (lay _ ‹_›) | (simp; done) | exact lay _ (by simp) | (simp [*]; done))
  replace qp4 : w13.cell? ⟨w.heap.size, 4, none⟩ = some (.slice Ah h.length ch) := keep hb (by first | assumption | exact lay _ ‹_› | exact lay _ (lay _ ‹_›) | (simp; done) | exact lay _ (by simp) | (simp [*]; done))
  replace kp : w.heap.size < w13.heap.size := World.block_lt_of_cell? _ _ qp0
  replace qa0 : w13.cell? ⟨w3.heap.size, 0, none⟩ = some (.slice Aa1 ((R).1.1).length ca1) := keep hb (by first | assumption | exact lay _ ‹_› | exact lay _ (lay _ ‹_›) | (simp; done) | exact lay _ (by simp) | (simp [*]; done))
  replace qa1 : w13.cell? ⟨w3.heap.size, 1, none⟩ = some (.slice Aa2 ((R).1.2.1).length ca2) := keep hb (by first | assumption | exact lay _ ‹_› | exact lay _ (lay _ ‹_›) | (simp; done) | exact lay _ (by simp) | (simp [*]; done))
  replace qa2 : w13.cell? ⟨w3.heap.size, 2, none⟩ = some (.slice Aa3 ((R).1.2.2.1).length ca3) := keep hb (by first | assumption | exact lay _ ‹_› | exact lay _ (lay _ ‹_›) | (simp; done) | exact lay _ (by simp) | (simp [*]; done))
  replace qa3 : w13.cell? ⟨w3.heap.size, 3, none⟩ = some (.slice Aa4 ((R).1.2.2.2.1).length ca4) := keep hb (by first | assumption | exact lay _ ‹_› | exact lay _ (lay _ ‹_›) | (simp; done) | exact lay _ (by simp) | (simp [*]; done))
  replace qa4 : w13.cell? ⟨w3.heap.size, 4, none⟩ = some (.slice Aa5 ((R).1.2.2.2.2).length ca5) := keep hb (by first | assumption | exact lay _ ‹_› | exact lay _ (lay _ ‹_›) | (simp; done) | exact lay _ (by simp) | (simp [*]; done))
  replace ka : w3.heap.size < w13.heap.size := World.block_lt_of_cell? _ _ qa0
  replace qx0 : w13.cell? ⟨w4.heap.size, 0, none⟩ = some (.slice (some ⟨gx1, 0, none⟩) f.length f.length) := keep hb (by first | assumption | exact lay _ ‹_› | exact lay _ (lay _ ‹_›) | (simp; done) | exact lay _ (by simp) | (simp [*]; done))
  replace qx1 : w13.cell? ⟨w4.heap.size, 1, none⟩ = some (.slice (some ⟨gx2, 0, none⟩) n.length n.length) := keep hb (by first | assumption | exact lay _ ‹_› | exact lay _ (lay _ ‹_›) | (simp; done) | exact lay _ (by simp) | (simp [*]; done))
  replace qx2 : w13.cell? ⟨w4.heap.size, 2, none⟩ = some (.slice (some ⟨gx3, 0, none⟩) s.length s.length) := keep hb (by first | assumption | exact lay _ ‹_› | exact lay _ (lay _ ‹_›) | (simp; done) | exact lay _ (by simp) | (simp [*]; done))
  replace qx3 : w13.cell? ⟨w4.heap.size, 3, none⟩ = some (.slice (some ⟨gx4, 0, none⟩) r.length r.length) := keep hb (by first | assumption | exact lay _ ‹_› | exact lay _ (lay _ ‹_›) | (simp; done) | exact lay _ (by simp) | (simp [*]; done))
  replace qx4 : w13.cell? ⟨w4.heap.size, 4, none⟩ = some (.slice (some ⟨gx5, 0, none⟩) h.length h.length) := keep hb (by first | assumption | exact lay _ ‹_› | exact lay _ (lay _ ‹_›) | (simp; done) | exact lay _ (by simp) | (simp [*]; done))
  replace kx : w4.heap.size < w13.heap.size := World.block_lt_of_cell? _ _ qx0
  replace qb0 : w13.cell? ⟨w5.heap.size, 0, none⟩ = some (.slice Ab1 ((R).1.1).length cb1) := keep hb (by first | assumption | exact lay _ ‹_› | exact lay _ (lay _ ‹_›) | (simp; done) | exact lay _ (by simp) | (simp [*]; done))
  replace qb1 : w13.cell? ⟨w5.heap.size, 1, none⟩ = some (.slice Ab2 ((R).1.2.1).length cb2) := keep hb (by first | assumption | exact lay _ ‹_› | exact lay _ (lay _ ‹_›) | (simp; done) | exact lay _ (by simp) | (simp [*]; done))
  replace qb2 : w13.cell? ⟨w5.heap.size, 2, none⟩ = some (.slice Ab3 ((R).1.2.2.1).length cb3) := keep hb (by first | assumption | exact lay _ ‹_› | exact lay _ (lay _ ‹_›) | (simp; done) | exact lay _ (by simp) | (simp [*]; done))
  replace qb3 : w13.cell? ⟨w5.heap.size, 3, none⟩ = some (.slice Ab4 ((R).1.2.2.2.1).length cb4) := keep hb (by first | assumption | exact lay _ ‹_› | exact lay _ (lay _ ‹_›) | (simp; done) | exact lay _ (by simp) | (simp [*]; done))
  replace qb4 : w13.cell? ⟨w5.heap.size, 4, none⟩ = some (.slice Ab5 ((R).1.2.2.2.2).length cb5) := keep hb (by first | assumption | exact lay _ ‹_› | exact lay _ (lay _ ‹_›) | (simp; done) | exact lay _ (by simp) | (simp [*]; done))
  replace kb : w5.heap.size < w13.heap.size := World.block_lt_of_cell? _ _ qb0
  clear hb
  have hB13 : Below w.heap.size w w13 := Below.on' hB12 hb13
  have z13 : w12.heap.size + 0 ≤ w13.heap.size := by have hz2 := hb13.size; omega
  replace hTa1 := hTa1.below hb13
  replace hTa2 := hTa2.below hb13
  replace hTa3 := hTa3.below hb13
  replace hTa4 := hTa4.below hb13
  replace hTa5 := hTa5.below hb13
  replace hTb1 := hTb1.below hb13
  replace hTb2 := hTb2.below hb13
  replace hTb3 := hTb3.below hb13
  replace hTb4 := hTb4.below hb13
  replace hTb5 := hTb5.below hb13
  go_wp2_with fail
  refine (toEnds_any Af cf f An cn n As cs s Ar cr r Ah ch h _ hl'f (hSf.below hB13).all hl'n (hSn.below hB13).all hl's (hSs.below hB13).all hl'r (hSr.below hB13).all hl'h (hSh.below hB13).all).mono ?_
  rintro e w14 ⟨gt1, gt2, gt3, gt4, gt5, mt1, mt2, mt3, mt4, rfl, ⟨yt1, yt2, yt3, yt4, yt5⟩, hU1, hU2, hU3, hU4, hU5, hb⟩
  have hb14 : Below w13.heap.size w13 w14 := Below.on' (by go_grown) hb
  replace qp0 : w14.cell? ⟨w.heap.size, 0, none⟩ = some (.slice Af f.length cf) := keep hb (by first | assumption | exact lay _ ‹_› | exact lay _ (lay _ ‹_›) | (simp; done) | exact lay _ (by simp) | (simp [*]; done))
  replace qp1 : w14.cell? ⟨w.heap.size, 1, none⟩ = some (.slice An n.length cn) := keep hb (by first | assumption | exact lay _ ‹_› | exact lay _ (lay _ ‹_›) | (simp; done) | exact lay _ (by simp) | (simp [*]; done))
  replace qp2 : w14.cell? ⟨w.heap.size, 2, none⟩ = some (.slice As s.length cs) := keep hb (by first | assumption | exact lay _ ‹_› | exact lay _ (lay _ ‹_›) | (simp; done) | exact lay _ (by simp) | (simp [*]; done))
  replace qp3 : w14.cell? ⟨w.heap.size, 3, none⟩ = some (.slice Ar r.length cr) := keep hb (by first | assumption | exact lay _ ‹_› | exact lay _ (lay _ ‹_›) | (simp; done) | exact lay _ (by simp) | (simp [*]; done))
  replace qp4 : w14.cell? ⟨w.heap.size, 4, none⟩ = some (.slice Ah h.length ch) := keep hb (by first | assumption | exact lay _ ‹_› | exact lay _ (lay _ ‹_›) | (simp; done) | exact lay _ (by simp) | (simp [*]; done))
  replace kp : w.heap.size < w14.heap.size := World.block_lt_of_cell? _ _ qp0
  replace qa0 : w14.cell? ⟨w3.heap.size, 0, none⟩ = some (.slice Aa1 ((R).1.1).length ca1) := keep hb (by first | assumption | exact lay _ ‹_› | exact lay _ (lay _ ‹_›) | (simp; done) | exact lay _ (by simp) | (simp [*]; done))
  replace qa1 : w14.cell? ⟨w3.heap.size, 1, none⟩ = some (.slice Aa2 ((R).1.2.1).length ca2) := keep hb (by first | assumption | exact lay _ ‹_› | exact lay _ (lay _ ‹_›) | (simp; done) | exact lay _ (by simp) | (simp [*]; done))
  replace qa2 : w14.cell? ⟨w3.heap.size, 2, none⟩ = some (.slice Aa3 ((R).1.2.2.1).length ca3) := keep hb (by first | assumption | exact lay _ ‹_› | exact lay _ (lay _ ‹_›) | (simp; done) | exact lay _ (by simp) | (simp [*]; done))
  replace qa3 : w14.cell? ⟨w3.heap.size, 3, none⟩ = some (.slice Aa4 ((R).1.2.2.2.1).length ca4) := keep hb (by first | assumption | exact lay _ ‹_› | exact lay _ (lay _ ‹_›) | (simp; done) | exact lay _ (by simp) | (simp [*]; done))
  replace qa4 : w14.cell? ⟨w3.heap.size, 4, none⟩ = some (.slice Aa5 ((R).1.2.2.2.2).length ca5) := keep hb (by first | assumption | exact lay _ ‹_› | exact lay _ (lay _ ‹_›) | (simp; done) | exact lay _ (by simp) | (simp [*]; done))
  replace ka : w3.heap.size < w14.heap.size := World.block_lt_of_cell? _ _ qa0
  replace qx0 : w14.cell? ⟨w4.heap.size, 0, none⟩ = some (.slice (some ⟨gx1, 0, none⟩) f.length f.length) := keep hb (by first | assumption | exact lay _ ‹_› | exact lay _ (lay _ ‹_›) | (simp; done) | exact lay _ (by simp) | (simp [*]; done))
  replace qx1 : w14.cell? ⟨w4.heap.size, 1, none⟩ = some (.slice (some ⟨gx2, 0, none⟩) n.length n.length) := keep hb (by first | assumption | exact lay _ ‹_› | exact lay _ (lay _ ‹_›) | (simp; done) | exact lay _ (by simp) | (simp [*]; done))
  replace qx2 : w14.cell? ⟨w4.heap.size, 2, none⟩ = some (.slice (some ⟨gx3, 0, none⟩) s.length s.length) := keep hb (by first | assumption | exact lay _ ‹_› | exact lay _ (lay _ ‹_›) | (simp; done) | exact lay _ (by simp) | (simp [*]; done))
  replace qx3 : w14.cell? ⟨w4.heap.size, 3, none⟩ = some (.slice (some ⟨gx4, 0, none⟩) r.length r.length) := keep hb (by first | assumption | exact lay _ ‹_› | exact lay _ (lay _ ‹_›) | (simp; done) | exact lay _ (by simp) | (simp [*]; done))
  replace qx4 : w14.cell? ⟨w4.heap.size, 4, none⟩ = some (.slice (some ⟨gx5, 0, none⟩) h.length h.length) := keep hb (by first | assumption | exact lay _ ‹_› | exact lay _ (lay _ ‹_›) | (simp; done) | exact lay _ (by simp) | (simp [*]; done))
  replace kx : w4.heap.size < w14.heap.size := World.block_lt_of_cell? _ _ qx0
  replace qb0 : w14.cell? ⟨w5.heap.size, 0, none⟩ = some (.slice Ab1 ((R).1.1).length cb1) := keep hb (by first | assumption | exact lay _ ‹_› | exact lay _ (lay _ ‹_›) | (simp; done) | exact lay _ (by simp) | (simp [*]; done))
  replace qb1 : w14.cell? ⟨w5.heap.size, 1, none⟩ = some (.slice Ab2 ((R).1.2.1).length cb2) := keep hb (by first | assumption | exact lay _ ‹_› | exact lay _ (lay _ ‹_›) | (simp; done) | exact lay _ (by simp) | (simp [*]; done))
  replace qb2 : w14.cell? ⟨w5.heap.size, 2, none⟩ = some (.slice Ab3 ((R).1.2.2.1).length cb3) := keep hb (by first | assumption | exact lay _ ‹_› | exact lay _ (lay _ ‹_›) | (simp; done) | exact lay _ (by simp) | (simp [*]; done))
  replace qb3 : w14.cell? ⟨w5.heap.size, 3, none⟩ = some (.slice Ab4 ((R).1.2.2.2.1).length cb4) := keep hb (by first | assumption | exact lay _ ‹_› | exact lay _ (lay _ ‹_›) | (simp; done) | exact lay _ (by simp) | (simp [*]; done))
  replace qb4 : w14.cell? ⟨w5.heap.size, 4, none⟩ = some (.slice Ab5 ((R).1.2.2.2.2).length cb5) := keep hb (by first | assumption | exact lay _ ‹_› | exact lay _ (lay _ ‹_›) | (simp; done) | exact lay _ (by simp) | (simp [*]; done))
  replace kb : w5.heap.size < w14.heap.size := World.block_lt_of_cell? _ _ qb0
  clear hb
  have hB14 : Below w.heap.size w w14 := Below.on' hB13 hb14
  have z14 : w13.heap.size + 0 ≤ w14.heap.size := by have hz2 := hb14.size; omega
  replace hTa1 := hTa1.below hb14
  replace hTa2 := hTa2.below hb14
  replace hTa3 := hTa3.below hb14
  replace hTa4 := hTa4.below hb14
  replace hTa5 := hTa5.below hb14
  replace hTb1 := hTb1.below hb14
  replace hTb2 := hTb2.below hb14
  replace hTb3 := hTb3.below hb14
  replace hTb4 := hTb4.below hb14
  replace hTb5 := hTb5.below hb14
  have zzt : w13.heap.size ≤ mt1 := by have h := yt1; first | omega | (simp at h; omega)
  have hTt1 := hU1.mono (lo' := w13.heap.size) (hi' := mt1) (by first | exact Nat.le_refl _ | (simp; done) | (simp; omega)) (Nat.le_refl _) (by omega)
  have hTt2 := hU2
  have hTt3 := hU3
  have hTt4 := hU4
  have hTt5 := hU5
  clear hU1 hU2 hU3 hU4 hU5
  go_wp2_with fail
  refine (Eq.symm hRT.out ▸ TellState_impl (some ⟨gt1, 0, none⟩) f.length f (some ⟨gt2, 0, none⟩) n.length n (some ⟨gt3, 0, none⟩) s.length s (some ⟨gt4, 0, none⟩) r.length r (some ⟨gt5, 0, none⟩) h.length h nm k _ ⟨hl'f, hm'f, hTt1.all, hl'n, hm'n, hTt2.all, hl's, hm's, hTt3.all, Nat.le_refl _, hl'r, hm'r, hTt4.all, Nat.le_refl _, hl'h, hm'h, hTt5.all, Nat.le_refl _⟩ hs'nm (hT.below (by go_grown))).mono ?_
  rintro e w15 ⟨Ah1, ch1, Ah2, ch2, Ah3, ch3, Ah4, ch4, Ah5, ch5, rfl, ⟨lh1, uh1, lh2, uh2, lch, hch, lh3, uh3, lh4, uh4, lh5, uh5, hTh1, hTh2, hTh3, hTh4, hTh5, ⟨ih1, jh1, oh1⟩, ⟨ih2, jh2, oh2⟩, ⟨ich, jch, och⟩, ⟨ih3, jh3, oh3⟩, ⟨ih4, jh4, oh4⟩, ⟨ih5, jh5, oh5⟩, eh0, eh1, eh2, eh3, eh4, eh5⟩, hb⟩
  have hb15 : Below w14.heap.size w14 w15 := Below.on' (by go_grown) hb
  replace qp0 : w15.cell? ⟨w.heap.size, 0, none⟩ = some (.slice Af f.length cf) := keep hb (by first | assumption | exact lay _ ‹_› | exact lay _ (lay _ ‹_›) | (simp; done) | exact lay _ (by simp) | (simp [*]; done))
  replace qp1 : w15.cell? ⟨w.heap.size, 1, none⟩ = some (.slice An n.length cn) := keep hb (by first | assumption | exact lay _ ‹_› | exact lay _ (lay _ ‹_›) | (simp; done) | exact lay _ (by simp) | (simp [*]; done))
  replace qp2 : w15.cell? ⟨w.heap.size, 2, none⟩ = some (.slice As s.length cs) := keep hb (by first | assumption | exact lay _ ‹_› | exact lay _ (lay _ ‹_›) | (simp; done) | exact lay _ (by simp) | (simp [*]; done))
  replace qp3 : w15.cell? ⟨w.heap.size, 3, none⟩ = some (.slice Ar r.length cr) := keep hb (by first | assumption | exact lay _ ‹_› | exact lay _ (lay _ ‹_›) | (simp; done) | exact lay _ (by simp) | (simp [*]; done))
  replace qp4 : w15.cell? ⟨w.heap.size, 4, none⟩ = some (.slice Ah h.length ch) := keep hb (by first | assumption | exact lay _ ‹_› | exact lay _ (lay _ ‹_›) | (simp; done) | exact lay _ (by simp) | (simp [*]; done))
  replace kp : w.heap.size < w15.heap.size := World.block_lt_of_cell? _ _ qp0
  replace qa0 : w15.cell? ⟨w3.heap.size, 0, none⟩ = some (.slice Aa1 ((R).1.1).length ca1) := keep hb (by first | assumption | exact lay _ ‹_› | exact lay _ (lay _ ‹_›) | (simp; done) | exact lay _ (by simp) | (simp [*]; done))
  replace qa1 : w15.cell? ⟨w3.heap.size, 1, none⟩ = some (.slice Aa2 ((R).1.2.1).length ca2) := keep hb (by first | assumption | exact lay _ ‹_› | exact lay _ (lay _ ‹_›) | (simp; done) | exact lay _ (by simp) | (simp [*]; done))
  replace qa2 : w15.cell? ⟨w3.heap.size, 2, none⟩ = some (.slice Aa3 ((R).1.2.2.1).length ca3) := keep hb (by first | assumption | exact lay _ ‹_› | exact lay _ (lay _ ‹_›) | (simp; done) | exact lay _ (by simp) | (simp [*]; done))
  replace qa3 : w15.cell? ⟨w3.heap.size, 3, none⟩ = some (.slice Aa4 ((R).1.2.2.2.1).length ca4) := keep hb (by first | assumption | exact lay _ ‹_› | exact lay _ (lay _ ‹_›) | (simp; done) | exact lay _ (by simp) | (simp [*]; done))
  replace qa4 : w15.cell? ⟨w3.heap.size, 4, none⟩ = some (.slice Aa5 ((R).1.2.2.2.2).length ca5) := keep hb (by first | assumption | exact lay _ ‹_› | exact lay _ (lay _ ‹_›) | (simp; done) | exact lay _ (by simp) | (simp [*]; done))
  replace ka : w3.heap.size < w15.heap.size := World.block_lt_of_cell? _ _ qa0
  replace qx0 : w15.cell? ⟨w4.heap.size, 0, none⟩ = some (.slice (some ⟨gx1, 0, none⟩) f.length f.length) := keep hb (by first | assumption | exact lay _ ‹_› | exact lay _ (lay _ ‹_›) | (simp; done) | exact lay _ (by simp) | (simp [*]; done))
  replace qx1 : w15.cell? ⟨w4.heap.size, 1, none⟩ = some (.slice (some ⟨gx2, 0, none⟩) n.length n.length) := keep hb (by first | assumption | exact lay _ ‹_› | exact lay _ (lay _ ‹_›) | (simp; done) | exact lay _ (by simp) | (simp [*]; done))
  replace qx2 : w15.cell? ⟨w4.heap.size, 2, none⟩ = some (.slice (some ⟨gx3, 0, none⟩) s.length s.length) := keep hb (by first | assumption | exact lay _ ‹_› | exact lay _ (lay _ ‹_›) | (simp; done) | exact lay _ (by simp) | (simp [*]; done))
  replace qx3 : w15.cell? ⟨w4.heap.size, 3, none⟩ = some (.slice (some ⟨gx4, 0, none⟩) r.length r.length) := keep hb (by first | assumption | exact lay _ ‹_› | exact lay _ (lay _ ‹_›) | (simp; done) | exact lay _ (by simp) | (simp [*]; done))
  replace qx4 : w15.cell? ⟨w4.heap.size, 4, none⟩ = some (.slice (some ⟨gx5, 0, none⟩) h.length h.length) := keep hb (by first | assumption | exact lay _ ‹_› | exact lay _ (lay _ ‹_›) | (simp; done) | exact lay _ (by simp) | (simp [*]; done))
  replace kx : w4.heap.size < w15.heap.size := World.block_lt_of_cell? _ _ qx0
  replace qb0 : w15.cell? ⟨w5.heap.size, 0, none⟩ = some (.slice Ab1 ((R).1.1).length cb1) := keep hb (by first | assumption | exact lay _ ‹_› | exact lay _ (lay _ ‹_›) | (simp; done) | exact lay _ (by simp) | (simp [*]; done))
  replace qb1 : w15.cell? ⟨w5.heap.size, 1, none⟩ = some (.slice Ab2 ((R).1.2.1).length cb2) := keep hb (by first | assumption | exact lay _ ‹_› | exact lay _ (lay _ ‹_›) | (simp; done) | exact lay _ (by simp) | (simp [*]; done))
  replace qb2 : w15.cell? ⟨w5.heap.size, 2, none⟩ = some (.slice Ab3 ((R).1.2.2.1).length cb3) := keep hb (by first | assumption | exact lay _ ‹_› | exact lay _ (lay _ ‹_›) | (simp; done) | exact lay _ (by simp) | (simp [*]; done))
  replace qb3 : w15.cell? ⟨w5.heap.size, 3, none⟩ = some (.slice Ab4 ((R).1.2.2.2.1).length cb4) := keep hb (by first | assumption | exact lay _ ‹_› | exact lay _ (lay _ ‹_›) | (simp; done) | exact lay _ (by simp) | (simp [*]; done))
  replace qb4 : w15.cell? ⟨w5.heap.size, 4, none⟩ = some (.slice Ab5 ((R).1.2.2.2.2).length cb5) := keep hb (by first | assumption | exact lay _ ‹_› | exact lay _ (lay _ ‹_›) | (simp; done) | exact lay _ (by simp) | (simp [*]; done))
  replace kb : w5.heap.size < w15.heap.size := World.block_lt_of_cell? _ _ qb0
  clear hb
  have hB15 : Below w.heap.size w w15 := Below.on' hB14 hb15
  have z15 : w14.heap.size + 0 ≤ w15.heap.size := by have hz2 := hb15.size; omega
  replace hTa1 := hTa1.below hb15
  replace hTa2 := hTa2.below hb15
  replace hTa3 := hTa3.below hb15
  replace hTa4 := hTa4.below hb15
  replace hTa5 := hTa5.below hb15
  replace hTb1 := hTb1.below hb15
  replace hTb2 := hTb2.below hb15
  replace hTb3 := hTb3.below hb15
  replace hTb4 := hTb4.below hb15
  replace hTb5 := hTb5.below hb15
  replace hTt1 := hTt1.below hb15
  replace hTt2 := hTt2.below hb15
  replace hTt3 := hTt3.below hb15
  replace hTt4 := hTt4.below hb15
  replace hTt5 := hTt5.below hb15
  have vh1 : w14.heap.size ≤ lh1 := by have h := ih1; first | omega | (simp at h; omega)
  have vh2 : w14.heap.size ≤ lh2 := by have h := ih2; first | omega | (simp at h; omega)
  have vch : w14.heap.size ≤ lch := by have h := ich; first | omega | (simp at h; omega)
  clear hTt1
  clear hTt2
  clear hTt3
  clear hTt4
  clear hTt5
  go_wp2_with fail
  refine (eqEnds_same _ _ _ _ _ _ _ _ _ _ _ _ _ _ _ _ _ _ _ _ _ _ _ _ _ _ _ _ _ _ _ _ _ _ _ _ _ _ _ _ _ _ _ _ _ _ hLR1 (hTh1.alloc _) (hTa1.alloc _) hLR2 (hTh2.alloc _) (hTa2.alloc _) hLR3 (hTh3.alloc _) (hTa3.alloc _) hLR4 (hTh4.alloc _) (hTa4.alloc _) hLR5 (hTh5.alloc _) (hTa5.alloc _)).mono ?_
  rintro e w16 ⟨rfl, hb⟩
  have hb16 : Below w15.heap.size w15 w16 := Below.on' (by go_grown) hb
  replace qp0 : w16.cell? ⟨w.heap.size, 0, none⟩ = some (.slice Af f.length cf) := keep hb (by first | assumption | exact lay _ ‹_› | exact lay _ (lay _ ‹_›) | (simp; done) | exact lay _ (by simp) | (simp [*]; done))
  replace qp1 : w16.cell? ⟨w.heap.size, 1, none⟩ = some (.slice An n.length cn) := keep hb (by first | assumption | exact lay _ ‹_› | exact lay _ (lay _ ‹_›) | (simp; done) | exact lay _ (by simp) | (simp [*]; done))
  replace qp2 : w16.cell? ⟨w.heap.size, 2, none⟩ = some (.slice As s.length cs) := keep hb (by first | assumption | exact lay _ ‹_› | exact lay _ (lay _ ‹_›) | (simp; done) | exact lay _ (by simp) | (simp [*]; done))
  replace qp3 : w16.cell? ⟨w.heap.size, 3, none⟩ = some (.slice Ar r.length cr) := keep hb (by first | assumption | exact lay _ ‹_› | exact lay _ (lay _ ‹_›) | (simp; done) | exact lay _ (by simp) | (simp [*]; done))
  replace qp4 : w16.cell? ⟨w.heap.size, 4, none⟩ = some (.slice Ah h.length ch) := keep hb (by first | assumption | exact lay _ ‹_› | exact lay _ (lay _ ‹_›) | (simp; done) | exact lay _ (by simp) | (simp [*]; done))
  replace kp : w.heap.size < w16.heap.size := World.block_lt_of_cell? _ _ qp0
  replace qa0 : w16.cell? ⟨w3.heap.size, 0, none⟩ = some (.slice Aa1 ((R).1.1).length ca1) := keep hb (by first | assumption | exact lay _ ‹_› | exact lay _ (lay _ ‹_›) | (simp; done) | exact lay _ (by simp) | (simp [*]; done))
  replace qa1 : w16.cell? ⟨w3.heap.size, 1, none⟩ = some (.slice Aa2 ((R).1.2.1).length ca2) := keep hb (by first | assumption | exact lay _ ‹_› | exact lay _ (lay _ ‹_›) | (simp; done) | exact lay _ (by simp) | (simp [*]; done))
  replace qa2 : w16.cell? ⟨w3.heap.size, 2, none⟩ = some (.slice Aa3 ((R).1.2.2.1).length ca3) := keep hb (by first | assumption | exact lay _ ‹_› | exact lay _ (lay _ ‹_›) | (simp; done) | exact lay _ (by simp) | (simp [*]; done))
  replace qa3 : w16.cell? ⟨w3.heap.size, 3, none⟩ = some (.slice Aa4 ((R).1.2.2.2.1).length ca4) := keep hb (by first | assumption | exact lay _ ‹_› | exact lay _ (lay _ ‹_›) | (simp; done) | exact lay _ (by simp) | (simp [*]; done))
  replace qa4 : w16.cell? ⟨w3.heap.size, 4, none⟩ = some (.slice Aa5 ((R).1.2.2.2.2).length ca5) := keep hb (by first | assumption | exact lay _ ‹_› | exact lay _ (lay _ ‹_›) | (simp; done) | exact lay _ (by simp) | (simp [*]; done))
  replace ka : w3.heap.size < w16.heap.size := World.block_lt_of_cell? _ _ qa0
  replace qx0 : w16.cell? ⟨w4.heap.size, 0, none⟩ = some (.slice (some ⟨gx1, 0, none⟩) f.length f.length) := keep hb (by first | assumption | exact lay _ ‹_› | exact lay _ (lay _ ‹_›) | (simp; done) | exact lay _ (by simp) | (simp [*]; done))
  replace qx1 : w16.cell? ⟨w4.heap.size, 1, none⟩ = some (.slice (some ⟨gx2, 0, none⟩) n.length n.length) := keep hb (by first | assumption | exact lay _ ‹_› | exact lay _ (lay _ ‹_›) | (simp; done) | exact lay _ (by simp) | (simp [*]; done))
  replace qx2 : w16.cell? ⟨w4.heap.size, 2, none⟩ = some (.slice (some ⟨gx3, 0, none⟩) s.length s.length) := keep hb (by first | assumption | exact lay _ ‹_› | exact lay _ (lay _ ‹_›) | (simp; done) | exact lay _ (by simp) | (simp [*]; done))
  replace qx3 : w16.cell? ⟨w4.heap.size, 3, none⟩ = some (.slice (some ⟨gx4, 0, none⟩) r.length r.length) := keep hb (by first | assumption | exact lay _ ‹_› | exact lay _ (lay _ ‹_›) | (simp; done) | exact lay _ (by simp) | (simp [*]; done))
  replace qx4 : w16.cell? ⟨w4.heap.size, 4, none⟩ = some (.slice (some ⟨gx5, 0, none⟩) h.length h.length) := keep hb (by first | assumption | exact lay _ ‹_› | exact lay _ (lay _ ‹_›) | (simp; done) | exact lay _ (by simp) | (simp [*]; done))
  replace kx : w4.heap.size < w16.heap.size := World.block_lt_of_cell? _ _ qx0
  replace qb0 : w16.cell? ⟨w5.heap.size, 0, none⟩ = some (.slice Ab1 ((R).1.1).length cb1) := keep hb (by first | assumption | exact lay _ ‹_› | exact lay _ (lay _ ‹_›) | (simp; done) | exact lay _ (by simp) | (simp [*]; done))
  replace qb1 : w16.cell? ⟨w5.heap.size, 1, none⟩ = some (.slice Ab2 ((R).1.2.1).length cb2) := keep hb (by first | assumption | exact lay _ ‹_› | exact lay _ (lay _ ‹_›) | (simp; done) | exact lay _ (by simp) | (simp [*]; done))
  replace qb2 : w16.cell? ⟨w5.heap.size, 2, none⟩ = some (.slice Ab3 ((R).1.2.2.1).length cb3) := keep hb (by first | assumption | exact lay _ ‹_› | exact lay _ (lay _ ‹_›) | (simp; done) | exact lay _ (by simp) | (simp [*]; done))
  replace qb3 : w16.cell? ⟨w5.heap.size, 3, none⟩ = some (.slice Ab4 ((R).1.2.2.2.1).length cb4) := keep hb (by first | assumption | exact lay _ ‹_› | exact lay _ (lay _ ‹_›) | (simp; done) | exact lay _ (by simp) | (simp [*]; done))
  replace qb4 : w16.cell? ⟨w5.heap.size, 4, none⟩ = some (.slice Ab5 ((R).1.2.2.2.2).length cb5) := keep hb (by first | assumption | exact lay _ ‹_› | exact lay _ (lay _ ‹_›) | (simp; done) | exact lay _ (by simp) | (simp [*]; done))
  replace kb : w5.heap.size < w16.heap.size := World.block_lt_of_cell? _ _ qb0
  have qh0 : w16.cell? ⟨w15.heap.size, 0, none⟩ = some (.slice Ah1 ((R).1.1).length ch1) := keep hb (by first | assumption | exact lay _ ‹_› | exact lay _ (lay _ ‹_›) | (simp; done) | exact lay _ (by simp) | (simp [*]; done))
  have qh1 : w16.cell? ⟨w15.heap.size, 1, none⟩ = some (.slice Ah2 ((R).1.2.1).length ch2) := keep hb (by first | assumption | exact lay _ ‹_› | exact lay _ (lay _ ‹_›) | (simp; done) | exact lay _ (by simp) | (simp [*]; done))
  have qh2 : w16.cell? ⟨w15.heap.size, 2, none⟩ = some (.slice Ah3 ((R).1.2.2.1).length ch3) := keep hb (by first | assumption | exact lay _ ‹_› | exact lay _ (lay _ ‹_›) | (simp; done) | exact lay _ (by simp) | (simp [*]; done))
  have qh3 : w16.cell? ⟨w15.heap.size, 3, none⟩ = some (.slice Ah4 ((R).1.2.2.2.1).length ch4) := keep hb (by first | assumption | exact lay _ ‹_› | exact lay _ (lay _ ‹_›) | (simp; done) | exact lay _ (by simp) | (simp [*]; done))
  have qh4 : w16.cell? ⟨w15.heap.size, 4, none⟩ = some (.slice Ah5 ((R).1.2.2.2.2).length ch5) := keep hb (by first | assumption | exact lay _ ‹_› | exact lay _ (lay _ ‹_›) | (simp; done) | exact lay _ (by simp) | (simp [*]; done))
  have kh : w15.heap.size < w16.heap.size := World.block_lt_of_cell? _ _ qh0
  clear hb
  have hB16 : Below w.heap.size w w16 := Below.on' hB15 hb16
  have z16 : w15.heap.size + 1 ≤ w16.heap.size := by have hz := World.block_lt_of_cell? _ _ qh0; have hz2 := hb16.size; simp only at hz; omega
  replace hTa1 := hTa1.below hb16
  replace hTa2 := hTa2.below hb16
  replace hTa3 := hTa3.below hb16
  replace hTa4 := hTa4.below hb16
  replace hTa5 := hTa5.below hb16
  replace hTb1 := hTb1.below hb16
  replace hTb2 := hTb2.below hb16
  replace hTb3 := hTb3.below hb16
  replace hTb4 := hTb4.below hb16
  replace hTb5 := hTb5.below hb16
  replace hTh1 := hTh1.below hb16
  replace hTh2 := hTh2.below hb16
  replace hTh3 := hTh3.below hb16
  replace hTh4 := hTh4.below hb16
  replace hTh5 := hTh5.below hb16
  clear hTh1
  clear hTh2
  clear hTh3
  clear hTh4
  clear hTh5
  clear hTa1
  clear hTa2
  clear hTa3
  clear hTa4
  clear hTa5
  go_wp2_with fail
  refine (heldEnds_any _ _ _ _ _ _ _ _ _ _ _ _ _ _ _ _ _ _ _ _ _ _ _ _ _ _ _ hLR1 hTb1 hLR2 hTb2 hLR3 hTb3 hLR4 hTb4 hLR5 hTb5 (by omega) (by omega)).mono ?_
  rintro e w17 ⟨rfl, hb⟩
  have hb17 : Below w16.heap.size w16 w17 := Below.on' (by go_grown) hb
  replace qp0 : w17.cell? ⟨w.heap.size, 0, none⟩ = some (.slice Af f.length cf) := keep hb (by first | assumption | exact lay _ ‹_› | exact lay _ (lay _ ‹_›) | (simp; done) | exact lay _ (by simp) | (simp [*]; done))
  replace qp1 : w17.cell? ⟨w.heap.size, 1, none⟩ = some (.slice An n.length cn) := keep hb (by first | assumption | exact lay _ ‹_› | exact lay _ (lay _ ‹_›) | (simp; done) | exact lay _ (by simp) | (simp [*]; done))
  replace qp2 : w17.cell? ⟨w.heap.size, 2, none⟩ = some (.slice As s.length cs) := keep hb (by first | assumption | exact lay _ ‹_› | exact lay _ (lay _ ‹_›) | (simp; done) | exact lay _ (by simp) | (simp [*]; done))
  replace qp3 : w17.cell? ⟨w.heap.size, 3, none⟩ = some (.slice Ar r.length cr) := keep hb (by first | assumption | exact lay _ ‹_› | exact lay _ (lay _ ‹_›) | (simp; done) | exact lay _ (by simp) | (simp [*]; done))
  replace qp4 : w17.cell? ⟨w.heap.size, 4, none⟩ = some (.slice Ah h.length ch) := keep hb (by first | assumption | exact lay _ ‹_› | exact lay _ (lay _ ‹_›) | (simp; done) | exact lay _ (by simp) | (simp [*]; done))
  replace kp : w.heap.size < w17.heap.size := World.block_lt_of_cell? _ _ qp0
  replace qa0 : w17.cell? ⟨w3.heap.size, 0, none⟩ = some (.slice Aa1 ((R).1.1).length ca1) := keep hb (by first | assumption | exact lay _ ‹_› | exact lay _ (lay _ ‹_›) | (simp; done) | exact lay _ (by simp) | (simp [*]; done))
  replace qa1 : w17.cell? ⟨w3.heap.size, 1, none⟩ = some (.slice Aa2 ((R).1.2.1).length ca2) := keep hb (by first | assumption | exact lay _ ‹_› | exact lay _ (lay _ ‹_›) | (simp; done) | exact lay _ (by simp) | (simp [*]; done))
  replace qa2 : w17.cell? ⟨w3.heap.size, 2, none⟩ = some (.slice Aa3 ((R).1.2.2.1).length ca3) := keep hb (by first | assumption | exact lay _ ‹_› | exact lay _ (lay _ ‹_›) | (simp; done) | exact lay _ (by simp) | (simp [*]; done))
  replace qa3 : w17.cell? ⟨w3.heap.size, 3, none⟩ = some (.slice Aa4 ((R).1.2.2.2.1).length ca4) := keep hb (by first | assumption | exact lay _ ‹_› | exact lay _ (lay _ ‹_›) | (simp; done) | exact lay _ (by simp) | (simp [*]; done))
  replace qa4 : w17.cell? ⟨w3.heap.size, 4, none⟩ = some (.slice Aa5 ((R).1.2.2.2.2).length ca5) := keep hb (by first | assumption | exact lay _ ‹_› | exact lay _ (lay _ ‹_›) | (simp; done) | exact lay _ (by simp) | (simp [*]; done))
  replace ka : w3.heap.size < w17.heap.size := World.block_lt_of_cell? _ _ qa0
  replace qx0 : w17.cell? ⟨w4.heap.size, 0, none⟩ = some (.slice (some ⟨gx1, 0, none⟩) f.length f.length) := keep hb (by first | assumption | exact lay _ ‹_› | exact lay _ (lay _ ‹_›) | (simp; done) | exact lay _ (by simp) | (simp [*]; done))
  replace qx1 : w17.cell? ⟨w4.heap.size, 1, none⟩ = some (.slice (some ⟨gx2, 0, none⟩) n.length n.length) := keep hb (by first | assumption | exact lay _ ‹_› | exact lay _ (lay _ ‹_›) | (simp; done) | exact lay _ (by simp) | (simp [*]; done))
  replace qx2 : w17.cell? ⟨w4.heap.size, 2, none⟩ = some (.slice (some ⟨gx3, 0, none⟩) s.length s.length) := keep hb (by first | assumption | exact lay _ ‹_› | exact lay _ (lay _ ‹_›) | (simp; done) | exact lay _ (by simp) | (simp [*]; done))
  replace qx3 : w17.cell? ⟨w4.heap.size, 3, none⟩ = some (.slice (some ⟨gx4, 0, none⟩) r.length r.length) := keep hb (by first | assumption | exact lay _ ‹_› | exact lay _ (lay _ ‹_›) | (simp; done) | exact lay _ (by simp) | (simp [*]; done))
  replace qx4 : w17.cell? ⟨w4.heap.size, 4, none⟩ = some (.slice (some ⟨gx5, 0, none⟩) h.length h.length) := keep hb (by first | assumption | exact lay _ ‹_› | exact lay _ (lay _ ‹_›) | (simp; done) | exact lay _ (by simp) | (simp [*]; done))
  replace kx : w4.heap.size < w17.heap.size := World.block_lt_of_cell? _ _ qx0
  replace qb0 : w17.cell? ⟨w5.heap.size, 0, none⟩ = some (.slice Ab1 ((R).1.1).length cb1) := keep hb (by first | assumption | exact lay _ ‹_› | exact lay _ (lay _ ‹_›) | (simp; done) | exact lay _ (by simp) | (simp [*]; done))
  replace qb1 : w17.cell? ⟨w5.heap.size, 1, none⟩ = some (.slice Ab2 ((R).1.2.1).length cb2) := keep hb (by first | assumption | exact lay _ ‹_› | exact lay _ (lay _ ‹_›) | (simp; done) | exact lay _ (by simp) | (simp [*]; done))
  replace qb2 : w17.cell? ⟨w5.heap.size, 2, none⟩ = some (.slice Ab3 ((R).1.2.2.1).length cb3) := keep hb (by first | assumption | exact lay _ ‹_› | exact lay _ (lay _ ‹_›) | (simp; done) | exact lay _ (by simp) | (simp [*]; done))
  replace qb3 : w17.cell? ⟨w5.heap.size, 3, none⟩ = some (.slice Ab4 ((R).1.2.2.2.1).length cb4) := keep hb (by first | assumption | exact lay _ ‹_› | exact lay _ (lay _ ‹_›) | (simp; done) | exact lay _ (by simp) | (simp [*]; done))
  replace qb4 : w17.cell? ⟨w5.heap.size, 4, none⟩ = some (.slice Ab5 ((R).1.2.2.2.2).length cb5) := keep hb (by first | assumption | exact lay _ ‹_› | exact lay _ (lay _ ‹_›) | (simp; done) | exact lay _ (by simp) | (simp [*]; done))
  replace kb : w5.heap.size < w17.heap.size := World.block_lt_of_cell? _ _ qb0
  replace qh0 : w17.cell? ⟨w15.heap.size, 0, none⟩ = some (.slice Ah1 ((R).1.1).length ch1) := keep hb (by first | assumption | exact lay _ ‹_› | exact lay _ (lay _ ‹_›) | (simp; done) | exact lay _ (by simp) | (simp [*]; done))
  replace qh1 : w17.cell? ⟨w15.heap.size, 1, none⟩ = some (.slice Ah2 ((R).1.2.1).length ch2) := keep hb (by first | assumption | exact lay _ ‹_› | exact lay _ (lay _ ‹_›) | (simp; done) | exact lay _ (by simp) | (simp [*]; done))
  replace qh2 : w17.cell? ⟨w15.heap.size, 2, none⟩ = some (.slice Ah3 ((R).1.2.2.1).length ch3) := keep hb (by first | assumption | exact lay _ ‹_› | exact lay _ (lay _ ‹_›) | (simp; done) | exact lay _ (by simp) | (simp [*]; done))
  replace qh3 : w17.cell? ⟨w15.heap.size, 3, none⟩ = some (.slice Ah4 ((R).1.2.2.2.1).length ch4) := keep hb (by first | assumption | exact lay _ ‹_› | exact lay _ (lay _ ‹_›) | (simp; done) | exact lay _ (by simp) | (simp [*]; done))
  replace qh4 : w17.cell? ⟨w15.heap.size, 4, none⟩ = some (.slice Ah5 ((R).1.2.2.2.2).length ch5) := keep hb (by first | assumption | exact lay _ ‹_› | exact lay _ (lay _ ‹_›) | (simp; done) | exact lay _ (by simp) | (simp [*]; done))
  replace kh : w15.heap.size < w17.heap.size := World.block_lt_of_cell? _ _ qh0
  clear hb
  have hB17 : Below w.heap.size w w17 := Below.on' hB16 hb17
  have z17 : w16.heap.size + 0 ≤ w17.heap.size := by have hz2 := hb17.size; omega
  replace hTb1 := hTb1.below hb17
  replace hTb2 := hTb2.below hb17
  replace hTb3 := hTb3.below hb17
  replace hTb4 := hTb4.below hb17
  replace hTb5 := hTb5.below hb17
  go_wp2_with fail
  go_ret
  exact ⟨rfl, hB17⟩

theorem lay_met (os : Os) (args : Array Value) : laidMetH Tryz.prog Rows.fnExactTellStateRow.laid ((World.laidAll Tryz.prog os Rows.fnExactTellStateRow.laid).forCall (fun _ _ => 0) ⟨#[], args, []⟩).memory := by
  rw [MakeChecks.laidMetH_plain _ _ _ (by kernel_rfl)]
  exact laidMet_laidAll _ (by kernel_rfl) (by kernel_rfl)
set_option maxRecDepth 100000 in
theorem lifted (os : Os) (started : os.Started) (H : Type) (enc : TypeId × Value → H) :
    ReturnsInHanded {} Tryz.checked os 9 .any (fun w args => (Rows.fnExactTellStateSpec.pre enc Tryz.prog Tryz.f9 [] false w args ∧ laidMetH Tryz.prog Rows.fnExactTellStateRow.laid w) ∧ sizedMet enc Tryz.prog Tryz.f9 (OpenSpec.ofChange Rows.fnExactTellStateSpec) false w args) (Rows.fnExactTellStateSpec.post enc Tryz.prog Tryz.f9 false true false false) := by
  refine law_liftedD (C := Tryz.checked) own started (by kernel_rfl) Tryz.func9
    (ChangeSpec.witness_shaped (enc := enc) (C := Tryz.checked) (os := os) (X := fun w _ => laidMetH Tryz.prog Rows.fnExactTellStateRow.laid w) false (World.laidAll Tryz.prog os Rows.fnExactTellStateRow.laid) #[.agg #[.slice none 0 0, .slice none 0 0, .slice none 0 0, .slice none 0 0, .slice none 0 0], .string ⟨#[]⟩, .int .i64 0] 8 (World.laidAll_os _ _ _) (World.shaped_of_ZipB (by kernel_rfl) (by kernel_rfl)) (by kernel_rfl) (by kernel_rfl) (by kernel_rfl) (lay_met os _))
    laidOut 4 (by kernel_rfl) Tryz.underlying4 (by kernel_rfl) rfl ?_ ?_
  · intro ds hds
    have hn : Tryz.f9.params.size = 3 := by kernel_rfl
    rw [hn] at hds
    match ds, hds with
    | [d0, d1, d2], _ => rfl
  intro W base args ds p hval0 hA0 hlt hnf hL _hSh
  have hval : ∀ (j : Nat) t v, Tryz.f9.params[j]? = some t → args[j]? = some v → Value.okWide Tryz.prog W .any base t v := hval0
  have hA : DataW.TrodAll enc Tryz.prog W 0 (fun _ => true) true Tryz.f9.params.toList args.toList ds p := hA0
  clear hval0 hA0
  rw [Tryz.params9] at hA hval
  obtain ⟨v0, vs0, d0, ds0, p0, q0, hargs, rfl, rfl, h0, r0⟩ := trodAll_cons hA
  obtain ⟨v1, vs1, d1, ds1, p1, q1, rfl, rfl, rfl, h1, r1⟩ := trodAll_cons r0
  obtain ⟨v2, vs2, d2, ds2, p2, q2, rfl, rfl, rfl, h2, r2⟩ := trodAll_cons r1
  obtain ⟨rfl, rfl, rfl⟩ := trodAll_nil r2
  obtain rfl : args = #[v0, v1, v2] := by cases args; simp_all
  obtain ⟨Af, cf, f, An, cn, n, As, cs, s, Ar, cr, r, Ah, ch, h, rfl, ⟨hlf, hmf, hSf⟩, ⟨hln, hmn, hSn⟩, ⟨hls, hms, hSs⟩, ⟨hlr, hmr, hSr⟩, ⟨hlh, hmh, hSh⟩⟩ := Ends.opened (hval 0 27 v0 rfl rfl) h0 (fun x hx => hlt x (by simp [hx])) (fun b o h => hnf b o (by simp [h]))
  obtain ⟨nm, rfl, rfl, rfl, hnm⟩ := Go.ChangeMaps.open_string Tryz.underlying9 (hval 1 9 v1 rfl rfl) h1
  obtain ⟨k, rfl, rfl, rfl, wk⟩ := open_int Tryz.underlying3 (hval 2 3 v2 rfl rfl) h2
  exact walk Af cf f An cn n As cs s Ar cr r Ah ch h hlf hmf hln hmn hls hms hlr hmr hlh hmh nm hnm k W hL hSf hSn hSs hSr hSh

theorem over : Rows.fnExactTellStateRow.holds Tryz.pinned (OpenSpec.ofChange Rows.fnExactTellStateSpec) :=
  OpenClaim.holds_of_wide 9 Tryz.f9 rfl rfl rfl rfl rfl rfl rfl ⟨rfl, rfl, rfl, rfl, rfl⟩ rfl rfl rfl rfl rfl (by kernel_rfl) Tryz.func9 (by kernel_rfl)
    (of_decide_eq_true (by kernel_rfl)) (by unfold Func.isWrapper; first | (rw [if_pos (by decide +kernel)]; kernel_rfl) | (rw [if_neg (by decide +kernel)]; exact ⟨rfl, rfl⟩))
    (fun os started H enc _ => lifted os started H enc)

theorem proved : Rows.FnExactTellStateCardSaid :=
  Claim7.holds_tied_plain_at .later [] [.data, .data, .data, .sentinel, .sentinel] true Rows.fnExactTellStateCard.stood.harness true
    over (fun _ h => by cases h) (by kernel_rfl) (fun _ h => by cases h) fnExactTellState_row_tie rfl ⟨rfl, rfl⟩ (by kernel_rfl) rfl
    (fun f fn hf hfn => by
      obtain rfl : f = 9 := Option.some.inj ((show Tryz.prog.funcNamed "loop.example/g01020/laws.FnExactTellState" = some 9 by kernel_rfl).symm.trans hf) |>.symm
      obtain rfl : fn = Tryz.f9 := (Option.some.inj (Tryz.func9.symm.trans hfn)).symm
      exact ⟨by kernel_rfl, fun j t ht => by
        rw [Tryz.params9] at ht
        have hm : t ∈ [27, 9, 3] := by simpa using Array.mem_of_getElem? ht
        have hall : ([27, 9, 3].all fun u => !Tryz.prog.wantsStandIn u) = true := by kernel_rfl
        exact (show Tryz.prog.wantsStandIn t = false by simpa using List.all_eq_true.1 hall t hm)⟩)
    (by kernel_rfl)
#print axioms proved
end Go.Proofs.YtianabfehonliaaGreatDoor.lawTellState

/- FnReceived: for all drawn ends the law returns true. No conditions beyond the card's own: the listed variables are those that the program's text lays. -/
import Derived.Test.YtjmjilkpckbpeaaGreatDoorDrwR
import Derived.Test.YtjmjilkpckbpeaaGreatDoorEnM
import Derived.Test.YtjmjilkpckbpeaaGreatDoorSameEnds
import Derived.Test.YtjmjilkpckbpeaaGreatDoorEndV1
import Derived.Test.YtjmjilkpckbpeaaGreatDoorEndV2
import Derived.Test.YtjmjilkpckbpeaaGreatDoorEndBh
import Derived.Test.YtjmjilkpckbpeaaGreatDoorLR
import Derived.Test.YtjmjilkpckbpeaaGreatDoorStB
import Derived.Test.YtjmjilkpckbpeaaGreatDoorEndR1s
import Derived.Test.YtjmjilkpckbpeaaGreatDoorEndR3s
import Derived.Test.YtjmjilkpckbpeaaGreatDoorTie
import Derived.Test.YtjmjilkpckbpeaaGreatDoorCards
import Derived.SevenTiedAt
import Derived.Lay
import Derived.BigQuiet
import Derived.Deep.Cut
namespace Go.Proofs.YtjmjilkpckbpeaaGreatDoor.lawReceived
open Go.ChangeShapes Go.WideShapes Go.ChangeAt Go.RowKit Go.Joins Go.Proofs.YtjmjilkpckbpeaaGreatDoor

theorem cut_one {p : ByteArray} {k : Nat} (h : k < p.data.toList.length) : (p.extract k (k + 1)).data.toList = [p.data.toList[k]] := by
  have h2 : k < p.data.size := by rw [← Array.length_toList]; exact h
  rw [ByteArray.data_extract, Array.toList_extract, List.extract_eq_take_drop]
  rw [Nat.add_sub_cancel_left, List.drop_eq_getElem_cons h]
  rfl
set_option maxRecDepth 100000 in
set_option maxHeartbeats 40000000 in
theorem walk (Aco : Option Addr) (cco : Nat) (co : List Int) (hl1 : co.length ≤ maxLen) (hmco : ∀ x ∈ co, 0 ≤ x ∧ x ≤ 255) (Amo : Option Addr) (cmo : Nat) (mo : List Int) (hl2 : mo.length ≤ maxLen) (hmmo : ∀ x ∈ mo, 0 ≤ x ∧ x ≤ 255) (w : World) (hSco : Sl byE 1 w 0 w.heap.size Aco co) (hSmo : Sl byE 1 w 0 w.heap.size Amo mo) (hL : laidMetH Tryz.prog Rows.fnReceivedRow.laid w) :
    Calls Tryz.prog 5 #[.slice Aco co.length cco, .slice Amo mo.length cmo] w fun e w' => e = .returned (.bool true) ∧ Below w.heap.size w w' := by
  have hS : Said w := by
    have h : laidMet Tryz.prog Rows.fnReceivedRow.laid w := by rw [MakeChecks.laidMetH_plain _ _ _ (by kernel_rfl)] at hL; exact hL
    exact said_at h.tail.tail h.tail.tail.tail
  clear hL
  by_cases hbig : wrap64 ((co.length : Int) + mo.length) ≤ 1048576
  rotate_left
  · have hbig' : 1048576 < wrap64 ((co.length : Int) + mo.length) := by omega
    go_enter Tryz.func5, Tryz.ntmps5
    go_wp2
    go_ret
    exact ⟨rfl, by go_grown⟩
  go_enter Tryz.func5, Tryz.ntmps5
  go_wp2_with fail
  refine (DrawReceiveAt_any Aco cco co _ hl1 hmco hSco).mono ?_
  rintro e w1 ⟨A1, c1, f, A2, c2, n, A3, c3, s, A4, c4, r, A5, c5, h, i, rfl, hE, hb⟩
  have hB := hb
  clear hb
  have hq := hE.ea
  clear hE
  replace hq := hq.below ((Below.refl _ _).alloc (Nat.le_refl _) (.cells #[.slice A1 f.length c1, .slice A2 n.length c2, .slice A3 s.length c3, .slice A4 r.length c4, .slice A5 h.length c5] 52))
  replace hB := hB.alloc hB.size (.cells #[.slice A1 f.length c1, .slice A2 n.length c2, .slice A3 s.length c3, .slice A4 r.length c4, .slice A5 h.length c5] 52)
  have hX0 : cells5 w1.heap.size (.slice A1 f.length c1) (.slice A2 n.length c2) (.slice A3 s.length c3) (.slice A4 r.length c4) (.slice A5 h.length c5) (w1.alloc (.cells #[.slice A1 f.length c1, .slice A2 n.length c2, .slice A3 s.length c3, .slice A4 r.length c4, .slice A5 h.length c5] 52)) := cells5.new w1 (.slice A1 f.length c1) (.slice A2 n.length c2) (.slice A3 s.length c3) (.slice A4 r.length c4) (.slice A5 h.length c5) 52 _ rfl
  have hel := hq.el
  obtain ⟨f2, n2, s2, r2, h2, ok, hT⟩ : ∃ f2 n2 s2 r2 h2 ok, Hid (recT f n s r h i = ((f2, n2, s2, r2, h2), ok)) := ⟨_, _, _, _, _, _, Lib.hid rfl⟩
  have L2e : EL f2 n2 s2 r2 h2 := by have := hel.rec_ i; rw [hT.out] at this; exact this
  have cTi : ∀ W, EA W A1 c1 f A2 c2 n A3 c3 s A4 c4 r A5 c5 h → Said W → Calls Tryz.prog 50 #[.agg #[.slice A1 f.length c1, .slice A2 n.length c2, .slice A3 s.length c3, .slice A4 r.length c4, .slice A5 h.length c5], .int .i64 i] W (REX W f2 n2 s2 r2 h2 ok) := fun W q hS => (ReceiveAt_implC A1 c1 f A2 c2 n A3 c3 s A4 c4 r A5 c5 h i W q hS).mono fun e w' o => o.rex hT.out L2e
  have cTs : ∀ W, EA W A1 c1 f A2 c2 n A3 c3 s A4 c4 r A5 c5 h → Calls Tryz.prog 51 #[.agg #[.slice A1 f.length c1, .slice A2 n.length c2, .slice A3 s.length c3, .slice A4 r.length c4, .slice A5 h.length c5], .int .i64 i] W (RER W f2 n2 s2 r2 h2 ok) := fun W q => (ReceiveAt_spec A1 c1 f A2 c2 n A3 c3 s A4 c4 r A5 c5 h i W q).mono fun e w' o => RENT.rer o hT.out
  clear hel
  obtain ⟨x0, x1, x2, x3, x4⟩ := id hX0
  go_wp2_with fail
  refine (cTi _ hq (hS.below hB)).mono ?_
  rintro e w2 ⟨D1, d1, D2, d2, D3, d3, D4, d4, D5, d5, rfl, ht, hb⟩
  replace hq := hq.below hb
  replace hX0 := hX0.below hb
  replace hB := Below.on' hB hb
  clear hb
  clear x0 x1 x2 x3 x4
  replace hq := hq.below ((Below.refl _ _).alloc (Nat.le_refl _) (.cells #[.slice D1 f2.length d1, .slice D2 n2.length d2, .slice D3 s2.length d3, .slice D4 r2.length d4, .slice D5 h2.length d5] 52))
  replace hX0 := hX0.below ((Below.refl _ _).alloc (Nat.le_refl _) (.cells #[.slice D1 f2.length d1, .slice D2 n2.length d2, .slice D3 s2.length d3, .slice D4 r2.length d4, .slice D5 h2.length d5] 52))
  replace ht := ht.below ((Below.refl _ _).alloc (Nat.le_refl _) (.cells #[.slice D1 f2.length d1, .slice D2 n2.length d2, .slice D3 s2.length d3, .slice D4 r2.length d4, .slice D5 h2.length d5] 52))
  replace hB := hB.alloc hB.size (.cells #[.slice D1 f2.length d1, .slice D2 n2.length d2, .slice D3 s2.length d3, .slice D4 r2.length d4, .slice D5 h2.length d5] 52)
  have hX1 : cells5 w2.heap.size (.slice D1 f2.length d1) (.slice D2 n2.length d2) (.slice D3 s2.length d3) (.slice D4 r2.length d4) (.slice D5 h2.length d5) (w2.alloc (.cells #[.slice D1 f2.length d1, .slice D2 n2.length d2, .slice D3 s2.length d3, .slice D4 r2.length d4, .slice D5 h2.length d5] 52)) := cells5.new w2 (.slice D1 f2.length d1) (.slice D2 n2.length d2) (.slice D3 s2.length d3) (.slice D4 r2.length d4) (.slice D5 h2.length d5) 52 _ rfl
  obtain ⟨x0, x1, x2, x3, x4⟩ := id hX0
  go_wp2_with fail
  refine (cTs _ hq).mono ?_
  rintro e w3 ⟨E1, e1, E2, e2, E3, e3, E4, e4, E5, e5, rfl, hu, hb⟩
  replace hq := hq.below hb
  replace hX0 := hX0.below hb
  replace ht := ht.below hb
  replace hX1 := hX1.below hb
  replace hB := Below.on' hB hb
  clear hb
  clear x0 x1 x2 x3 x4
  replace hq := hq.below ((Below.refl _ _).alloc (Nat.le_refl _) (.cells #[.slice E1 f2.length e1, .slice E2 n2.length e2, .slice E3 s2.length e3, .slice E4 r2.length e4, .slice E5 h2.length e5] 52))
  replace hX0 := hX0.below ((Below.refl _ _).alloc (Nat.le_refl _) (.cells #[.slice E1 f2.length e1, .slice E2 n2.length e2, .slice E3 s2.length e3, .slice E4 r2.length e4, .slice E5 h2.length e5] 52))
  replace ht := ht.below ((Below.refl _ _).alloc (Nat.le_refl _) (.cells #[.slice E1 f2.length e1, .slice E2 n2.length e2, .slice E3 s2.length e3, .slice E4 r2.length e4, .slice E5 h2.length e5] 52))
  replace hX1 := hX1.below ((Below.refl _ _).alloc (Nat.le_refl _) (.cells #[.slice E1 f2.length e1, .slice E2 n2.length e2, .slice E3 s2.length e3, .slice E4 r2.length e4, .slice E5 h2.length e5] 52))
  replace hu := hu.below ((Below.refl _ _).alloc (Nat.le_refl _) (.cells #[.slice E1 f2.length e1, .slice E2 n2.length e2, .slice E3 s2.length e3, .slice E4 r2.length e4, .slice E5 h2.length e5] 52))
  replace hB := hB.alloc hB.size (.cells #[.slice E1 f2.length e1, .slice E2 n2.length e2, .slice E3 s2.length e3, .slice E4 r2.length e4, .slice E5 h2.length e5] 52)
  have hX2 : cells5 w3.heap.size (.slice E1 f2.length e1) (.slice E2 n2.length e2) (.slice E3 s2.length e3) (.slice E4 r2.length e4) (.slice E5 h2.length e5) (w3.alloc (.cells #[.slice E1 f2.length e1, .slice E2 n2.length e2, .slice E3 s2.length e3, .slice E4 r2.length e4, .slice E5 h2.length e5] 52)) := cells5.new w3 (.slice E1 f2.length e1) (.slice E2 n2.length e2) (.slice E3 s2.length e3) (.slice E4 r2.length e4) (.slice E5 h2.length e5) 52 _ rfl
  clear cTi cTs
  go_wp2_with fail
  refine (DrawRunStates_any Amo cmo mo _ hl2 hmmo (hSmo.below hB).all).mono ?_
  rintro e w4 ⟨B1, b1, f7, B2, b2, n7, B3, b3, s7, B4, b4, r7, B5, b5, h7, p, rfl, hp, hE, hb⟩
  replace hq := hq.below hb
  replace hX0 := hX0.below hb
  replace ht := ht.below hb
  replace hX1 := hX1.below hb
  replace hu := hu.below hb
  replace hX2 := hX2.below hb
  replace hB := Below.on' hB hb
  have hQ := hE.ea
  clear hE
  clear hb
  replace hq := hq.below ((Below.refl _ _).alloc (Nat.le_refl _) (.cells #[.slice B1 f7.length b1, .slice B2 n7.length b2, .slice B3 s7.length b3, .slice B4 r7.length b4, .slice B5 h7.length b5] 52))
  replace hX0 := hX0.below ((Below.refl _ _).alloc (Nat.le_refl _) (.cells #[.slice B1 f7.length b1, .slice B2 n7.length b2, .slice B3 s7.length b3, .slice B4 r7.length b4, .slice B5 h7.length b5] 52))
  replace ht := ht.below ((Below.refl _ _).alloc (Nat.le_refl _) (.cells #[.slice B1 f7.length b1, .slice B2 n7.length b2, .slice B3 s7.length b3, .slice B4 r7.length b4, .slice B5 h7.length b5] 52))
  replace hX1 := hX1.below ((Below.refl _ _).alloc (Nat.le_refl _) (.cells #[.slice B1 f7.length b1, .slice B2 n7.length b2, .slice B3 s7.length b3, .slice B4 r7.length b4, .slice B5 h7.length b5] 52))
  replace hu := hu.below ((Below.refl _ _).alloc (Nat.le_refl _) (.cells #[.slice B1 f7.length b1, .slice B2 n7.length b2, .slice B3 s7.length b3, .slice B4 r7.length b4, .slice B5 h7.length b5] 52))
  replace hX2 := hX2.below ((Below.refl _ _).alloc (Nat.le_refl _) (.cells #[.slice B1 f7.length b1, .slice B2 n7.length b2, .slice B3 s7.length b3, .slice B4 r7.length b4, .slice B5 h7.length b5] 52))
  replace hQ := hQ.below ((Below.refl _ _).alloc (Nat.le_refl _) (.cells #[.slice B1 f7.length b1, .slice B2 n7.length b2, .slice B3 s7.length b3, .slice B4 r7.length b4, .slice B5 h7.length b5] 52))
  replace hB := hB.alloc hB.size (.cells #[.slice B1 f7.length b1, .slice B2 n7.length b2, .slice B3 s7.length b3, .slice B4 r7.length b4, .slice B5 h7.length b5] 52)
  have hX3 : cells5 w4.heap.size (.slice B1 f7.length b1) (.slice B2 n7.length b2) (.slice B3 s7.length b3) (.slice B4 r7.length b4) (.slice B5 h7.length b5) (w4.alloc (.cells #[.slice B1 f7.length b1, .slice B2 n7.length b2, .slice B3 s7.length b3, .slice B4 r7.length b4, .slice B5 h7.length b5] 52)) := cells5.new w4 (.slice B1 f7.length b1) (.slice B2 n7.length b2) (.slice B3 s7.length b3) (.slice B4 r7.length b4) (.slice B5 h7.length b5) 52 _ rfl
  have hel := hQ.el
  obtain ⟨f3, n3, s3, r3, h3, one, hR⟩ : ∃ f3 n3 s3 r3 h3 one, Hid (rstT f7 n7 s7 r7 h7 p = ((f3, n3, s3, r3, h3), one)) := ⟨_, _, _, _, _, _, Lib.hid rfl⟩
  have L3e : EL f3 n3 s3 r3 h3 := by have := hel.rst p; rw [hR.out] at this; exact this
  have cTi : ∀ W, EA W B1 b1 f7 B2 b2 n7 B3 b3 s7 B4 b4 r7 B5 b5 h7 → Said W → Calls Tryz.prog 53 #[.agg #[.slice B1 f7.length b1, .slice B2 n7.length b2, .slice B3 s7.length b3, .slice B4 r7.length b4, .slice B5 h7.length b5], .string p] W (REX W f3 n3 s3 r3 h3 one) := fun W q hS => (RunStates_implC B1 b1 f7 B2 b2 n7 B3 b3 s7 B4 b4 r7 B5 b5 h7 p W q (by omega) hS).mono fun e w' o => o.rex hR.out L3e
  have cTs : ∀ W, EA W B1 b1 f7 B2 b2 n7 B3 b3 s7 B4 b4 r7 B5 b5 h7 → Calls Tryz.prog 54 #[.agg #[.slice B1 f7.length b1, .slice B2 n7.length b2, .slice B3 s7.length b3, .slice B4 r7.length b4, .slice B5 h7.length b5], .string p] W (RER W f3 n3 s3 r3 h3 one) := fun W q => (RunStates_spec B1 b1 f7 B2 b2 n7 B3 b3 s7 B4 b4 r7 B5 b5 h7 p W q (by omega)).mono fun e w' o => RENT.rer o hR.out
  clear hel
  obtain ⟨x0, x1, x2, x3, x4⟩ := id hX3
  go_wp2_with fail
  refine (cTi _ hQ (hS.below hB)).mono ?_
  rintro e w5 ⟨F1, j1, F2, j2, F3, j3, F4, j4, F5, j5, rfl, ha, hb⟩
  replace hq := hq.below hb
  replace hX0 := hX0.below hb
  replace ht := ht.below hb
  replace hX1 := hX1.below hb
  replace hu := hu.below hb
  replace hX2 := hX2.below hb
  replace hQ := hQ.below hb
  replace hX3 := hX3.below hb
  replace hB := Below.on' hB hb
  clear hb
  clear x0 x1 x2 x3 x4
  replace hq := hq.below ((Below.refl _ _).alloc (Nat.le_refl _) (.cells #[.slice F1 f3.length j1, .slice F2 n3.length j2, .slice F3 s3.length j3, .slice F4 r3.length j4, .slice F5 h3.length j5] 52))
  replace hX0 := hX0.below ((Below.refl _ _).alloc (Nat.le_refl _) (.cells #[.slice F1 f3.length j1, .slice F2 n3.length j2, .slice F3 s3.length j3, .slice F4 r3.length j4, .slice F5 h3.length j5] 52))
  replace ht := ht.below ((Below.refl _ _).alloc (Nat.le_refl _) (.cells #[.slice F1 f3.length j1, .slice F2 n3.length j2, .slice F3 s3.length j3, .slice F4 r3.length j4, .slice F5 h3.length j5] 52))
  replace hX1 := hX1.below ((Below.refl _ _).alloc (Nat.le_refl _) (.cells #[.slice F1 f3.length j1, .slice F2 n3.length j2, .slice F3 s3.length j3, .slice F4 r3.length j4, .slice F5 h3.length j5] 52))
  replace hu := hu.below ((Below.refl _ _).alloc (Nat.le_refl _) (.cells #[.slice F1 f3.length j1, .slice F2 n3.length j2, .slice F3 s3.length j3, .slice F4 r3.length j4, .slice F5 h3.length j5] 52))
  replace hX2 := hX2.below ((Below.refl _ _).alloc (Nat.le_refl _) (.cells #[.slice F1 f3.length j1, .slice F2 n3.length j2, .slice F3 s3.length j3, .slice F4 r3.length j4, .slice F5 h3.length j5] 52))
  replace hQ := hQ.below ((Below.refl _ _).alloc (Nat.le_refl _) (.cells #[.slice F1 f3.length j1, .slice F2 n3.length j2, .slice F3 s3.length j3, .slice F4 r3.length j4, .slice F5 h3.length j5] 52))
  replace hX3 := hX3.below ((Below.refl _ _).alloc (Nat.le_refl _) (.cells #[.slice F1 f3.length j1, .slice F2 n3.length j2, .slice F3 s3.length j3, .slice F4 r3.length j4, .slice F5 h3.length j5] 52))
  replace ha := ha.below ((Below.refl _ _).alloc (Nat.le_refl _) (.cells #[.slice F1 f3.length j1, .slice F2 n3.length j2, .slice F3 s3.length j3, .slice F4 r3.length j4, .slice F5 h3.length j5] 52))
  replace hB := hB.alloc hB.size (.cells #[.slice F1 f3.length j1, .slice F2 n3.length j2, .slice F3 s3.length j3, .slice F4 r3.length j4, .slice F5 h3.length j5] 52)
  have hX4 : cells5 w5.heap.size (.slice F1 f3.length j1) (.slice F2 n3.length j2) (.slice F3 s3.length j3) (.slice F4 r3.length j4) (.slice F5 h3.length j5) (w5.alloc (.cells #[.slice F1 f3.length j1, .slice F2 n3.length j2, .slice F3 s3.length j3, .slice F4 r3.length j4, .slice F5 h3.length j5] 52)) := cells5.new w5 (.slice F1 f3.length j1) (.slice F2 n3.length j2) (.slice F3 s3.length j3) (.slice F4 r3.length j4) (.slice F5 h3.length j5) 52 _ rfl
  obtain ⟨x0, x1, x2, x3, x4⟩ := id hX3
  go_wp2_with fail
  refine (cTs _ hQ).mono ?_
  rintro e w6 ⟨H1, k1, H2, k2, H3, k3, H4, k4, H5, k5, rfl, hy, hb⟩
  replace hq := hq.below hb
  replace hX0 := hX0.below hb
  replace ht := ht.below hb
  replace hX1 := hX1.below hb
  replace hu := hu.below hb
  replace hX2 := hX2.below hb
  replace hQ := hQ.below hb
  replace hX3 := hX3.below hb
  replace ha := ha.below hb
  replace hX4 := hX4.below hb
  replace hB := Below.on' hB hb
  clear hb
  clear x0 x1 x2 x3 x4
  replace hq := hq.below ((Below.refl _ _).alloc (Nat.le_refl _) (.cells #[.slice H1 f3.length k1, .slice H2 n3.length k2, .slice H3 s3.length k3, .slice H4 r3.length k4, .slice H5 h3.length k5] 52))
  replace hX0 := hX0.below ((Below.refl _ _).alloc (Nat.le_refl _) (.cells #[.slice H1 f3.length k1, .slice H2 n3.length k2, .slice H3 s3.length k3, .slice H4 r3.length k4, .slice H5 h3.length k5] 52))
  replace ht := ht.below ((Below.refl _ _).alloc (Nat.le_refl _) (.cells #[.slice H1 f3.length k1, .slice H2 n3.length k2, .slice H3 s3.length k3, .slice H4 r3.length k4, .slice H5 h3.length k5] 52))
  replace hX1 := hX1.below ((Below.refl _ _).alloc (Nat.le_refl _) (.cells #[.slice H1 f3.length k1, .slice H2 n3.length k2, .slice H3 s3.length k3, .slice H4 r3.length k4, .slice H5 h3.length k5] 52))
  replace hu := hu.below ((Below.refl _ _).alloc (Nat.le_refl _) (.cells #[.slice H1 f3.length k1, .slice H2 n3.length k2, .slice H3 s3.length k3, .slice H4 r3.length k4, .slice H5 h3.length k5] 52))
  replace hX2 := hX2.below ((Below.refl _ _).alloc (Nat.le_refl _) (.cells #[.slice H1 f3.length k1, .slice H2 n3.length k2, .slice H3 s3.length k3, .slice H4 r3.length k4, .slice H5 h3.length k5] 52))
  replace hQ := hQ.below ((Below.refl _ _).alloc (Nat.le_refl _) (.cells #[.slice H1 f3.length k1, .slice H2 n3.length k2, .slice H3 s3.length k3, .slice H4 r3.length k4, .slice H5 h3.length k5] 52))
  replace hX3 := hX3.below ((Below.refl _ _).alloc (Nat.le_refl _) (.cells #[.slice H1 f3.length k1, .slice H2 n3.length k2, .slice H3 s3.length k3, .slice H4 r3.length k4, .slice H5 h3.length k5] 52))
  replace ha := ha.below ((Below.refl _ _).alloc (Nat.le_refl _) (.cells #[.slice H1 f3.length k1, .slice H2 n3.length k2, .slice H3 s3.length k3, .slice H4 r3.length k4, .slice H5 h3.length k5] 52))
  replace hX4 := hX4.below ((Below.refl _ _).alloc (Nat.le_refl _) (.cells #[.slice H1 f3.length k1, .slice H2 n3.length k2, .slice H3 s3.length k3, .slice H4 r3.length k4, .slice H5 h3.length k5] 52))
  replace hy := hy.below ((Below.refl _ _).alloc (Nat.le_refl _) (.cells #[.slice H1 f3.length k1, .slice H2 n3.length k2, .slice H3 s3.length k3, .slice H4 r3.length k4, .slice H5 h3.length k5] 52))
  replace hB := hB.alloc hB.size (.cells #[.slice H1 f3.length k1, .slice H2 n3.length k2, .slice H3 s3.length k3, .slice H4 r3.length k4, .slice H5 h3.length k5] 52)
  have hX5 : cells5 w6.heap.size (.slice H1 f3.length k1) (.slice H2 n3.length k2) (.slice H3 s3.length k3) (.slice H4 r3.length k4) (.slice H5 h3.length k5) (w6.alloc (.cells #[.slice H1 f3.length k1, .slice H2 n3.length k2, .slice H3 s3.length k3, .slice H4 r3.length k4, .slice H5 h3.length k5] 52)) := cells5.new w6 (.slice H1 f3.length k1) (.slice H2 n3.length k2) (.slice H3 s3.length k3) (.slice H4 r3.length k4) (.slice H5 h3.length k5) 52 _ rfl
  clear cTi cTs
  go_wp2_with fail
  refine (DrawBehindBy_any Amo cmo mo _ hl2 hmmo (hSmo.below hB).all).mono ?_
  rintro e w7 ⟨C1, g1, f8, C2, g2, n8, C3, g3, s8, C4, g4, r8, C5, g5, h8, nm, rfl, hnm, hE, hb⟩
  replace hq := hq.below hb
  replace hX0 := hX0.below hb
  replace ht := ht.below hb
  replace hX1 := hX1.below hb
  replace hu := hu.below hb
  replace hX2 := hX2.below hb
  replace hQ := hQ.below hb
  replace hX3 := hX3.below hb
  replace ha := ha.below hb
  replace hX4 := hX4.below hb
  replace hy := hy.below hb
  replace hX5 := hX5.below hb
  replace hB := Below.on' hB hb
  have hV := hE.ea
  clear hE
  clear hb
  replace hq := hq.below ((Below.refl _ _).alloc (Nat.le_refl _) (.cells #[.slice C1 f8.length g1, .slice C2 n8.length g2, .slice C3 s8.length g3, .slice C4 r8.length g4, .slice C5 h8.length g5] 52))
  replace hX0 := hX0.below ((Below.refl _ _).alloc (Nat.le_refl _) (.cells #[.slice C1 f8.length g1, .slice C2 n8.length g2, .slice C3 s8.length g3, .slice C4 r8.length g4, .slice C5 h8.length g5] 52))
  replace ht := ht.below ((Below.refl _ _).alloc (Nat.le_refl _) (.cells #[.slice C1 f8.length g1, .slice C2 n8.length g2, .slice C3 s8.length g3, .slice C4 r8.length g4, .slice C5 h8.length g5] 52))
  replace hX1 := hX1.below ((Below.refl _ _).alloc (Nat.le_refl _) (.cells #[.slice C1 f8.length g1, .slice C2 n8.length g2, .slice C3 s8.length g3, .slice C4 r8.length g4, .slice C5 h8.length g5] 52))
  replace hu := hu.below ((Below.refl _ _).alloc (Nat.le_refl _) (.cells #[.slice C1 f8.length g1, .slice C2 n8.length g2, .slice C3 s8.length g3, .slice C4 r8.length g4, .slice C5 h8.length g5] 52))
  replace hX2 := hX2.below ((Below.refl _ _).alloc (Nat.le_refl _) (.cells #[.slice C1 f8.length g1, .slice C2 n8.length g2, .slice C3 s8.length g3, .slice C4 r8.length g4, .slice C5 h8.length g5] 52))
  replace hQ := hQ.below ((Below.refl _ _).alloc (Nat.le_refl _) (.cells #[.slice C1 f8.length g1, .slice C2 n8.length g2, .slice C3 s8.length g3, .slice C4 r8.length g4, .slice C5 h8.length g5] 52))
  replace hX3 := hX3.below ((Below.refl _ _).alloc (Nat.le_refl _) (.cells #[.slice C1 f8.length g1, .slice C2 n8.length g2, .slice C3 s8.length g3, .slice C4 r8.length g4, .slice C5 h8.length g5] 52))
  replace ha := ha.below ((Below.refl _ _).alloc (Nat.le_refl _) (.cells #[.slice C1 f8.length g1, .slice C2 n8.length g2, .slice C3 s8.length g3, .slice C4 r8.length g4, .slice C5 h8.length g5] 52))
  replace hX4 := hX4.below ((Below.refl _ _).alloc (Nat.le_refl _) (.cells #[.slice C1 f8.length g1, .slice C2 n8.length g2, .slice C3 s8.length g3, .slice C4 r8.length g4, .slice C5 h8.length g5] 52))
  replace hy := hy.below ((Below.refl _ _).alloc (Nat.le_refl _) (.cells #[.slice C1 f8.length g1, .slice C2 n8.length g2, .slice C3 s8.length g3, .slice C4 r8.length g4, .slice C5 h8.length g5] 52))
  replace hX5 := hX5.below ((Below.refl _ _).alloc (Nat.le_refl _) (.cells #[.slice C1 f8.length g1, .slice C2 n8.length g2, .slice C3 s8.length g3, .slice C4 r8.length g4, .slice C5 h8.length g5] 52))
  replace hV := hV.below ((Below.refl _ _).alloc (Nat.le_refl _) (.cells #[.slice C1 f8.length g1, .slice C2 n8.length g2, .slice C3 s8.length g3, .slice C4 r8.length g4, .slice C5 h8.length g5] 52))
  replace hB := hB.alloc hB.size (.cells #[.slice C1 f8.length g1, .slice C2 n8.length g2, .slice C3 s8.length g3, .slice C4 r8.length g4, .slice C5 h8.length g5] 52)
  have hX6 : cells5 w7.heap.size (.slice C1 f8.length g1) (.slice C2 n8.length g2) (.slice C3 s8.length g3) (.slice C4 r8.length g4) (.slice C5 h8.length g5) (w7.alloc (.cells #[.slice C1 f8.length g1, .slice C2 n8.length g2, .slice C3 s8.length g3, .slice C4 r8.length g4, .slice C5 h8.length g5] 52)) := cells5.new w7 (.slice C1 f8.length g1) (.slice C2 n8.length g2) (.slice C3 s8.length g3) (.slice C4 r8.length g4) (.slice C5 h8.length g5) 52 _ rfl
  have cBi : ∀ W, EA W C1 g1 f8 C2 g2 n8 C3 g3 s8 C4 g4 r8 C5 g5 h8 → Said W → Calls Tryz.prog 46 #[.agg #[.slice C1 f8.length g1, .slice C2 n8.length g2, .slice C3 s8.length g3, .slice C4 r8.length g4, .slice C5 h8.length g5], .string nm] W _ := fun W q hS => BehindBy_impl C1 g1 f8 C2 g2 n8 C3 g3 s8 C4 g4 r8 C5 g5 h8 nm W q hnm hS
  have cBs : ∀ W, EA W C1 g1 f8 C2 g2 n8 C3 g3 s8 C4 g4 r8 C5 g5 h8 → Calls Tryz.prog 47 #[.agg #[.slice C1 f8.length g1, .slice C2 n8.length g2, .slice C3 s8.length g3, .slice C4 r8.length g4, .slice C5 h8.length g5], .string nm] W _ := fun W q => BehindBy_spec C1 g1 f8 C2 g2 n8 C3 g3 s8 C4 g4 r8 C5 g5 h8 nm W q hnm
  generalize behT f8 n8 s8 r8 h8 nm = bt at cBi cBs
  obtain ⟨bv, bo⟩ := bt
  dsimp only at cBi cBs
  obtain ⟨x0, x1, x2, x3, x4⟩ := id hX6
  go_wp2_with fail
  refine (cBi _ hV (hS.below hB)).mono ?_
  rintro e w8 ⟨rfl, hb⟩
  replace hq := hq.below hb
  replace hX0 := hX0.below hb
  replace ht := ht.below hb
  replace hX1 := hX1.below hb
  replace hu := hu.below hb
  replace hX2 := hX2.below hb
  replace hQ := hQ.below hb
  replace hX3 := hX3.below hb
  replace ha := ha.below hb
  replace hX4 := hX4.below hb
  replace hy := hy.below hb
  replace hX5 := hX5.below hb
  replace hV := hV.below hb
  replace hX6 := hX6.below hb
  replace hB := Below.on' hB hb
  clear hb
  clear x0 x1 x2 x3 x4
  obtain ⟨x0, x1, x2, x3, x4⟩ := id hX6
  go_wp2_with fail
  refine (cBs _ hV).mono ?_
  rintro e w9 ⟨rfl, hb⟩
  replace hq := hq.below hb
  replace hX0 := hX0.below hb
  replace ht := ht.below hb
  replace hX1 := hX1.below hb
  replace hu := hu.below hb
  replace hX2 := hX2.below hb
  replace hQ := hQ.below hb
  replace hX3 := hX3.below hb
  replace ha := ha.below hb
  replace hX4 := hX4.below hb
  replace hy := hy.below hb
  replace hX5 := hX5.below hb
  replace hV := hV.below hb
  replace hX6 := hX6.below hb
  replace hB := Below.on' hB hb
  clear hb
  clear x0 x1 x2 x3 x4
  clear cBi cBs hV hX6
  go_wp2_with fail
  refine (DrawStateBody_any Amo cmo mo _ hl2 hmmo (hSmo.below hB).all).mono ?_
  rintro e w10 ⟨sn, rfl, hb⟩
  replace hq := hq.below hb
  replace hX0 := hX0.below hb
  replace ht := ht.below hb
  replace hX1 := hX1.below hb
  replace hu := hu.below hb
  replace hX2 := hX2.below hb
  replace hQ := hQ.below hb
  replace hX3 := hX3.below hb
  replace ha := ha.below hb
  replace hX4 := hX4.below hb
  replace hy := hy.below hb
  replace hX5 := hX5.below hb
  replace hB := Below.on' hB hb
  clear hb
  have cSi := StateBody_impl sn
  have cSs := StateBody_spec sn
  obtain ⟨sb, five, hF⟩ : ∃ sb five, Hid (sbT sn = (sb, five)) := ⟨_, _, Lib.hid rfl⟩
  rw [hF.out] at cSi cSs
  dsimp only at cSi cSs
  go_wp2_with fail
  refine (cSi _).mono ?_
  rintro e w11 ⟨rfl, hb⟩
  replace hq := hq.below hb
  replace hX0 := hX0.below hb
  replace ht := ht.below hb
  replace hX1 := hX1.below hb
  replace hu := hu.below hb
  replace hX2 := hX2.below hb
  replace hQ := hQ.below hb
  replace hX3 := hX3.below hb
  replace ha := ha.below hb
  replace hX4 := hX4.below hb
  replace hy := hy.below hb
  replace hX5 := hX5.below hb
  replace hB := Below.on' hB hb
  clear hb
  go_wp2_with fail
  refine (cSs _).mono ?_
  rintro e w12 ⟨rfl, hb⟩
  replace hq := hq.below hb
  replace hX0 := hX0.below hb
  replace ht := ht.below hb
  replace hX1 := hX1.below hb
  replace hu := hu.below hb
  replace hX2 := hX2.below hb
  replace hQ := hQ.below hb
  replace hX3 := hX3.below hb
  replace ha := ha.below hb
  replace hX4 := hX4.below hb
  replace hy := hy.below hb
  replace hX5 := hX5.below hb
  replace hB := Below.on' hB hb
  clear hb
  clear cSi cSs
  go_wp2_with fail
  refine (DrawParseStateBody_any Amo cmo mo _ hl2 hmmo (hSmo.below hB).all).mono ?_
  rintro e w13 ⟨ps, hps, rfl, hb⟩
  replace hq := hq.below hb
  replace hX0 := hX0.below hb
  replace ht := ht.below hb
  replace hX1 := hX1.below hb
  replace hu := hu.below hb
  replace hX2 := hX2.below hb
  replace hQ := hQ.below hb
  replace hX3 := hX3.below hb
  replace ha := ha.below hb
  replace hX4 := hX4.below hb
  replace hy := hy.below hb
  replace hX5 := hX5.below hb
  replace hB := Below.on' hB hb
  clear hb
  go_wp2_with fail
  refine (ParseStateBody_impl ps (by omega) _ (hS.below hB)).mono ?_
  rintro e w14 ⟨kv0, kb0, rfl, HR, hb⟩
  replace hq := hq.below hb
  replace hX0 := hX0.below hb
  replace ht := ht.below hb
  replace hX1 := hX1.below hb
  replace hu := hu.below hb
  replace hX2 := hX2.below hb
  replace hQ := hQ.below hb
  replace hX3 := hX3.below hb
  replace ha := ha.below hb
  replace hX4 := hX4.below hb
  replace hy := hy.below hb
  replace hX5 := hX5.below hb
  replace hB := Below.on' hB hb
  clear hb
  go_wp2_with fail
  refine (ParseStateBody_spec ps _).mono ?_
  rintro e w15 ⟨kv, kb, rfl, HR2, hb⟩
  replace hq := hq.below hb
  replace hX0 := hX0.below hb
  replace ht := ht.below hb
  replace hX1 := hX1.below hb
  replace hu := hu.below hb
  replace hX2 := hX2.below hb
  replace hQ := hQ.below hb
  replace hX3 := hX3.below hb
  replace ha := ha.below hb
  replace hX4 := hX4.below hb
  replace hy := hy.below hb
  replace hX5 := hX5.below hb
  replace hB := Below.on' hB hb
  clear hb
  have hPv : PsV ps kv0 kb0 := HR.out
  obtain ⟨rfl, rfl⟩ := hPv.same HR2.out
  replace hPv := Lib.hid hPv
  clear HR HR2
  go_upto_region 18 with fail
  go_cut [183] from 53 (fun v wx => v = .bool false ∧ Below w.heap.size w wx ∧ EA wx A1 c1 f A2 c2 n A3 c3 s A4 c4 r A5 c5 h ∧ cells5 w1.heap.size (.slice A1 f.length c1) (.slice A2 n.length c2) (.slice A3 s.length c3) (.slice A4 r.length c4) (.slice A5 h.length c5) wx ∧ EA wx D1 d1 f2 D2 d2 n2 D3 d3 s2 D4 d4 r2 D5 d5 h2 ∧ cells5 w2.heap.size (.slice D1 f2.length d1) (.slice D2 n2.length d2) (.slice D3 s2.length d3) (.slice D4 r2.length d4) (.slice D5 h2.length d5) wx ∧ ER wx E1 f2 E2 n2 E3 s2 E4 r2 E5 h2 ∧ cells5 w3.heap.size (.slice E1 f2.length e1) (.slice E2 n2.length e2) (.slice E3 s2.length e3) (.slice E4 r2.length e4) (.slice E5 h2.length e5) wx ∧ EA wx B1 b1 f7 B2 b2 n7 B3 b3 s7 B4 b4 r7 B5 b5 h7 ∧ cells5 w4.heap.size (.slice B1 f7.length b1) (.slice B2 n7.length b2) (.slice B3 s7.length b3) (.slice B4 r7.length b4) (.slice B5 h7.length b5) wx ∧ EA wx F1 j1 f3 F2 j2 n3 F3 j3 s3 F4 j4 r3 F5 j5 h3 ∧ cells5 w5.heap.size (.slice F1 f3.length j1) (.slice F2 n3.length j2) (.slice F3 s3.length j3) (.slice F4 r3.length j4) (.slice F5 h3.length j5) wx)
  case first =>
    as_aux_lemma =>
      have z1 := neqB ok
      have z2 := neqB one
      have z3 := neqB bo
      have z4 := neqB five
      have z5 := neqB kb
      have z6 : (bv != bv) = false := by simp
      have z7 : (kv != kv) = false := by simp
      have z8 : (sb.toList != sb.toList) = false := by simp
      obtain ⟨x0, x1, x2, x3, x4⟩ := id hX1
      obtain ⟨y0, y1, y2, y3, y4⟩ := id hX2
      go_wp2_with fail
      refine (qEnds_any D1 d1 D2 d2 D3 d3 D4 d4 D5 d5 E1 e1 E2 e2 E3 e3 E4 e4 E5 e5 f2 n2 s2 r2 h2 _ L2e.f.1 L2e.n.1 L2e.s.1 L2e.r.1 L2e.h.1 ht.er.p1 ht.er.p2 ht.er.p3 ht.er.p4 ht.er.p5 hu.p1 hu.p2 hu.p3 hu.p4 hu.p5).mono ?_
      rintro e v1 ⟨rfl, hb⟩
      replace hq := hq.below hb
      replace hX0 := hX0.below hb
      replace ht := ht.below hb
      replace hX1 := hX1.below hb
      replace hu := hu.below hb
      replace hX2 := hX2.below hb
      replace hQ := hQ.below hb
      replace hX3 := hX3.below hb
      replace ha := ha.below hb
      replace hX4 := hX4.below hb
      replace hy := hy.below hb
      replace hX5 := hX5.below hb
      replace hB := Below.on' hB hb
      clear hb
      clear x0 x1 x2 x3 x4
      clear y0 y1 y2 y3 y4
      obtain ⟨x0, x1, x2, x3, x4⟩ := id hX4
      obtain ⟨y0, y1, y2, y3, y4⟩ := id hX5
      go_wp2_with fail
      refine (qEnds_any F1 j1 F2 j2 F3 j3 F4 j4 F5 j5 H1 k1 H2 k2 H3 k3 H4 k4 H5 k5 f3 n3 s3 r3 h3 _ L3e.f.1 L3e.n.1 L3e.s.1 L3e.r.1 L3e.h.1 ha.er.p1 ha.er.p2 ha.er.p3 ha.er.p4 ha.er.p5 hy.p1 hy.p2 hy.p3 hy.p4 hy.p5).mono ?_
      rintro e v2 ⟨rfl, hb⟩
      replace hq := hq.below hb
      replace hX0 := hX0.below hb
      replace ht := ht.below hb
      replace hX1 := hX1.below hb
      replace hu := hu.below hb
      replace hX2 := hX2.below hb
      replace hQ := hQ.below hb
      replace hX3 := hX3.below hb
      replace ha := ha.below hb
      replace hX4 := hX4.below hb
      replace hy := hy.below hb
      replace hX5 := hX5.below hb
      replace hB := Below.on' hB hb
      clear hb
      clear x0 x1 x2 x3 x4
      clear y0 y1 y2 y3 y4
      go_wp2_with fail
      go_meet
      exact ⟨rfl, hB, hq, hX0, ht, hX1, hu, hX2, hQ, hX3, ha, hX4⟩
  case rest =>
    as_aux_lemma =>
      obtain ⟨rfl, hI⟩ := hcut
      clear hB hq hX0 ht hX1 hu hX2 hQ hX3 ha hX4 hy hX5
      go_upto_if 184 with fail
      go_cut [4] from 316 (fun v wx => v = .bool false ∧ Below w.heap.size w wx ∧ EA wx B1 b1 f7 B2 b2 n7 B3 b3 s7 B4 b4 r7 B5 b5 h7 ∧ cells5 w4.heap.size (.slice B1 f7.length b1) (.slice B2 n7.length b2) (.slice B3 s7.length b3) (.slice B4 r7.length b4) (.slice B5 h7.length b5) wx ∧ EA wx F1 j1 f3 F2 j2 n3 F3 j3 s3 F4 j4 r3 F5 j5 h3 ∧ cells5 w5.heap.size (.slice F1 f3.length j1) (.slice F2 n3.length j2) (.slice F3 s3.length j3) (.slice F4 r3.length j4) (.slice F5 h3.length j5) wx)
      case first =>
        as_aux_lemma =>
          obtain ⟨hB, hq, hX0, ht, hX1, hu, hX2, hQ, hX3, ha, hX4⟩ := hI
          cases ok with
          | false =>
            go_wp2_with fail
            go_meet
            exact ⟨rfl, hB, hQ, hX3, ha, hX4⟩
          | true =>
            obtain ⟨k1, k2, f4, n4, s4, r4, h4, f5, n5, s5, r5, h5, V, k3, k4, k5, k6⟩ := rec_facts hT.out rfl
            have L4e : EL f4 n4 s4 r4 h4 := by have := L2e.rall; rw [k3] at this; exact this
            have L5e : EL f5 n5 s5 r5 h5 := by have := hq.el.rall; rw [k4] at this; exact this
            have hVl : V.length ≤ 1048576 := by
              have := viewT_len n4 s4 r4 h4 L4e.f.1
              rw [k5] at this
              exact this
            have cT : ∀ W, EA W D1 d1 f2 D2 d2 n2 D3 d3 s2 D4 d4 r2 D5 d5 h2 → Said W → Calls Tryz.prog 50 #[.agg #[.slice D1 f2.length d1, .slice D2 n2.length d2, .slice D3 s2.length d3, .slice D4 r2.length d4, .slice D5 h2.length d5], .int .i64 i] W (REX W f2 n2 s2 r2 h2 true) := fun W q hS => (ReceiveAt_implC D1 d1 f2 D2 d2 n2 D3 d3 s2 D4 d4 r2 D5 d5 h2 i W q hS).mono fun e w' o => o.rex k1 L2e
            have cA : ∀ W, EA W D1 d1 f2 D2 d2 n2 D3 d3 s2 D4 d4 r2 D5 d5 h2 → Said W → Calls Tryz.prog 32 #[.agg #[.slice D1 f2.length d1, .slice D2 n2.length d2, .slice D3 s2.length d3, .slice D4 r2.length d4, .slice D5 h2.length d5]] W (REX W f4 n4 s4 r4 h4 true) := fun W q hS => (ReceiveAll_implC D1 d1 f2 D2 d2 n2 D3 d3 s2 D4 d4 r2 D5 d5 h2 W q hS).mono fun e w' o => o.rex k3 L4e
            have cB : ∀ W, EA W A1 c1 f A2 c2 n A3 c3 s A4 c4 r A5 c5 h → Said W → Calls Tryz.prog 32 #[.agg #[.slice A1 f.length c1, .slice A2 n.length c2, .slice A3 s.length c3, .slice A4 r.length c4, .slice A5 h.length c5]] W (REX W f5 n5 s5 r5 h5 true) := fun W q hS => (ReceiveAll_implC A1 c1 f A2 c2 n A3 c3 s A4 c4 r A5 c5 h W q hS).mono fun e w' o => o.rex k4 L5e
            have cE : ∀ W, EA W D1 d1 f2 D2 d2 n2 D3 d3 s2 D4 d4 r2 D5 d5 h2 → Said W → Calls Tryz.prog 44 #[.agg #[.slice D1 f2.length d1, .slice D2 n2.length d2, .slice D3 s2.length d3, .slice D4 r2.length d4, .slice D5 h2.length d5]] W (RV W (.bool true)) := fun W q hS => by have := AreEnds_impl D1 d1 f2 D2 d2 n2 D3 d3 s2 D4 d4 r2 D5 d5 h2 W q.lf q.mf q.Sf q.ln q.mn q.Sn q.ls q.ms q.Ss q.ks q.lr q.mr q.Sr q.kr q.lh q.mh q.Sh q.kh hS; rw [k2] at this; exact this
            replace k5 := Lib.hid k5
            replace k6 := Lib.hid k6
            clear k1 k2 k3 k4
            obtain ⟨x0, x1, x2, x3, x4⟩ := id hX1
            go_wp2_with fail
            refine (cT _ ht (hS.below hB)).mono ?_
            rintro e w51 ⟨M1, m1, M2, m2, M3, m3, M4, m4, M5, m5, rfl, hM, hb⟩
            replace hq := hq.below hb
            replace hX0 := hX0.below hb
            replace ht := ht.below hb
            replace hX1 := hX1.below hb
            replace hu := hu.below hb
            replace hX2 := hX2.below hb
            replace hQ := hQ.below hb
            replace hX3 := hX3.below hb
            replace ha := ha.below hb
            replace hX4 := hX4.below hb
            replace hB := Below.on' hB hb
            clear hb
            clear x0 x1 x2 x3 x4
            replace hq := hq.below ((Below.refl _ _).alloc (Nat.le_refl _) (.cells #[.slice M1 f2.length m1, .slice M2 n2.length m2, .slice M3 s2.length m3, .slice M4 r2.length m4, .slice M5 h2.length m5] 52))
            replace hX0 := hX0.below ((Below.refl _ _).alloc (Nat.le_refl _) (.cells #[.slice M1 f2.length m1, .slice M2 n2.length m2, .slice M3 s2.length m3, .slice M4 r2.length m4, .slice M5 h2.length m5] 52))
            replace ht := ht.below ((Below.refl _ _).alloc (Nat.le_refl _) (.cells #[.slice M1 f2.length m1, .slice M2 n2.length m2, .slice M3 s2.length m3, .slice M4 r2.length m4, .slice M5 h2.length m5] 52))
            replace hX1 := hX1.below ((Below.refl _ _).alloc (Nat.le_refl _) (.cells #[.slice M1 f2.length m1, .slice M2 n2.length m2, .slice M3 s2.length m3, .slice M4 r2.length m4, .slice M5 h2.length m5] 52))
            replace hu := hu.below ((Below.refl _ _).alloc (Nat.le_refl _) (.cells #[.slice M1 f2.length m1, .slice M2 n2.length m2, .slice M3 s2.length m3, .slice M4 r2.length m4, .slice M5 h2.length m5] 52))
            replace hX2 := hX2.below ((Below.refl _ _).alloc (Nat.le_refl _) (.cells #[.slice M1 f2.length m1, .slice M2 n2.length m2, .slice M3 s2.length m3, .slice M4 r2.length m4, .slice M5 h2.length m5] 52))
            replace hQ := hQ.below ((Below.refl _ _).alloc (Nat.le_refl _) (.cells #[.slice M1 f2.length m1, .slice M2 n2.length m2, .slice M3 s2.length m3, .slice M4 r2.length m4, .slice M5 h2.length m5] 52))
            replace hX3 := hX3.below ((Below.refl _ _).alloc (Nat.le_refl _) (.cells #[.slice M1 f2.length m1, .slice M2 n2.length m2, .slice M3 s2.length m3, .slice M4 r2.length m4, .slice M5 h2.length m5] 52))
            replace ha := ha.below ((Below.refl _ _).alloc (Nat.le_refl _) (.cells #[.slice M1 f2.length m1, .slice M2 n2.length m2, .slice M3 s2.length m3, .slice M4 r2.length m4, .slice M5 h2.length m5] 52))
            replace hX4 := hX4.below ((Below.refl _ _).alloc (Nat.le_refl _) (.cells #[.slice M1 f2.length m1, .slice M2 n2.length m2, .slice M3 s2.length m3, .slice M4 r2.length m4, .slice M5 h2.length m5] 52))
            replace hM := hM.below ((Below.refl _ _).alloc (Nat.le_refl _) (.cells #[.slice M1 f2.length m1, .slice M2 n2.length m2, .slice M3 s2.length m3, .slice M4 r2.length m4, .slice M5 h2.length m5] 52))
            replace hB := hB.alloc hB.size (.cells #[.slice M1 f2.length m1, .slice M2 n2.length m2, .slice M3 s2.length m3, .slice M4 r2.length m4, .slice M5 h2.length m5] 52)
            have hY1 : cells5 w51.heap.size (.slice M1 f2.length m1) (.slice M2 n2.length m2) (.slice M3 s2.length m3) (.slice M4 r2.length m4) (.slice M5 h2.length m5) (w51.alloc (.cells #[.slice M1 f2.length m1, .slice M2 n2.length m2, .slice M3 s2.length m3, .slice M4 r2.length m4, .slice M5 h2.length m5] 52)) := cells5.new w51 (.slice M1 f2.length m1) (.slice M2 n2.length m2) (.slice M3 s2.length m3) (.slice M4 r2.length m4) (.slice M5 h2.length m5) 52 _ rfl
            obtain ⟨x0, x1, x2, x3, x4⟩ := id hX1
            go_wp2_with fail
            refine (cA _ ht (hS.below hB)).mono ?_
            rintro e w52 ⟨N1, o1, N2, o2, N3, o3, N4, o4, N5, o5, rfl, hN, hb⟩
            replace hq := hq.below hb
            replace hX0 := hX0.below hb
            replace ht := ht.below hb
            replace hX1 := hX1.below hb
            replace hu := hu.below hb
            replace hX2 := hX2.below hb
            replace hQ := hQ.below hb
            replace hX3 := hX3.below hb
            replace ha := ha.below hb
            replace hX4 := hX4.below hb
            replace hM := hM.below hb
            replace hY1 := hY1.below hb
            replace hB := Below.on' hB hb
            clear hb
            clear x0 x1 x2 x3 x4
            replace hq := hq.below ((Below.refl _ _).alloc (Nat.le_refl _) (.cells #[.slice N1 f4.length o1, .slice N2 n4.length o2, .slice N3 s4.length o3, .slice N4 r4.length o4, .slice N5 h4.length o5] 52))
            replace hX0 := hX0.below ((Below.refl _ _).alloc (Nat.le_refl _) (.cells #[.slice N1 f4.length o1, .slice N2 n4.length o2, .slice N3 s4.length o3, .slice N4 r4.length o4, .slice N5 h4.length o5] 52))
            replace ht := ht.below ((Below.refl _ _).alloc (Nat.le_refl _) (.cells #[.slice N1 f4.length o1, .slice N2 n4.length o2, .slice N3 s4.length o3, .slice N4 r4.length o4, .slice N5 h4.length o5] 52))
            replace hX1 := hX1.below ((Below.refl _ _).alloc (Nat.le_refl _) (.cells #[.slice N1 f4.length o1, .slice N2 n4.length o2, .slice N3 s4.length o3, .slice N4 r4.length o4, .slice N5 h4.length o5] 52))
            replace hu := hu.below ((Below.refl _ _).alloc (Nat.le_refl _) (.cells #[.slice N1 f4.length o1, .slice N2 n4.length o2, .slice N3 s4.length o3, .slice N4 r4.length o4, .slice N5 h4.length o5] 52))
            replace hX2 := hX2.below ((Below.refl _ _).alloc (Nat.le_refl _) (.cells #[.slice N1 f4.length o1, .slice N2 n4.length o2, .slice N3 s4.length o3, .slice N4 r4.length o4, .slice N5 h4.length o5] 52))
            replace hQ := hQ.below ((Below.refl _ _).alloc (Nat.le_refl _) (.cells #[.slice N1 f4.length o1, .slice N2 n4.length o2, .slice N3 s4.length o3, .slice N4 r4.length o4, .slice N5 h4.length o5] 52))
            replace hX3 := hX3.below ((Below.refl _ _).alloc (Nat.le_refl _) (.cells #[.slice N1 f4.length o1, .slice N2 n4.length o2, .slice N3 s4.length o3, .slice N4 r4.length o4, .slice N5 h4.length o5] 52))
            replace ha := ha.below ((Below.refl _ _).alloc (Nat.le_refl _) (.cells #[.slice N1 f4.length o1, .slice N2 n4.length o2, .slice N3 s4.length o3, .slice N4 r4.length o4, .slice N5 h4.length o5] 52))
            replace hX4 := hX4.below ((Below.refl _ _).alloc (Nat.le_refl _) (.cells #[.slice N1 f4.length o1, .slice N2 n4.length o2, .slice N3 s4.length o3, .slice N4 r4.length o4, .slice N5 h4.length o5] 52))
            replace hM := hM.below ((Below.refl _ _).alloc (Nat.le_refl _) (.cells #[.slice N1 f4.length o1, .slice N2 n4.length o2, .slice N3 s4.length o3, .slice N4 r4.length o4, .slice N5 h4.length o5] 52))
            replace hY1 := hY1.below ((Below.refl _ _).alloc (Nat.le_refl _) (.cells #[.slice N1 f4.length o1, .slice N2 n4.length o2, .slice N3 s4.length o3, .slice N4 r4.length o4, .slice N5 h4.length o5] 52))
            replace hN := hN.below ((Below.refl _ _).alloc (Nat.le_refl _) (.cells #[.slice N1 f4.length o1, .slice N2 n4.length o2, .slice N3 s4.length o3, .slice N4 r4.length o4, .slice N5 h4.length o5] 52))
            replace hB := hB.alloc hB.size (.cells #[.slice N1 f4.length o1, .slice N2 n4.length o2, .slice N3 s4.length o3, .slice N4 r4.length o4, .slice N5 h4.length o5] 52)
            have hY2 : cells5 w52.heap.size (.slice N1 f4.length o1) (.slice N2 n4.length o2) (.slice N3 s4.length o3) (.slice N4 r4.length o4) (.slice N5 h4.length o5) (w52.alloc (.cells #[.slice N1 f4.length o1, .slice N2 n4.length o2, .slice N3 s4.length o3, .slice N4 r4.length o4, .slice N5 h4.length o5] 52)) := cells5.new w52 (.slice N1 f4.length o1) (.slice N2 n4.length o2) (.slice N3 s4.length o3) (.slice N4 r4.length o4) (.slice N5 h4.length o5) 52 _ rfl
            obtain ⟨x0, x1, x2, x3, x4⟩ := id hX0
            go_wp2_with fail
            refine (cB _ hq (hS.below hB)).mono ?_
            rintro e w53 ⟨O1, qq1, O2, qq2, O3, qq3, O4, qq4, O5, qq5, rfl, hO, hb⟩
            replace hq := hq.below hb
            replace hX0 := hX0.below hb
            replace ht := ht.below hb
            replace hX1 := hX1.below hb
            replace hu := hu.below hb
            replace hX2 := hX2.below hb
            replace hQ := hQ.below hb
            replace hX3 := hX3.below hb
            replace ha := ha.below hb
            replace hX4 := hX4.below hb
            replace hM := hM.below hb
            replace hY1 := hY1.below hb
            replace hN := hN.below hb
            replace hY2 := hY2.below hb
            replace hB := Below.on' hB hb
            clear hb
            clear x0 x1 x2 x3 x4
            replace hq := hq.below ((Below.refl _ _).alloc (Nat.le_refl _) (.cells #[.slice O1 f5.length qq1, .slice O2 n5.length qq2, .slice O3 s5.length qq3, .slice O4 r5.length qq4, .slice O5 h5.length qq5] 52))
            replace hX0 := hX0.below ((Below.refl _ _).alloc (Nat.le_refl _) (.cells #[.slice O1 f5.length qq1, .slice O2 n5.length qq2, .slice O3 s5.length qq3, .slice O4 r5.length qq4, .slice O5 h5.length qq5] 52))
            replace ht := ht.below ((Below.refl _ _).alloc (Nat.le_refl _) (.cells #[.slice O1 f5.length qq1, .slice O2 n5.length qq2, .slice O3 s5.length qq3, .slice O4 r5.length qq4, .slice O5 h5.length qq5] 52))
            replace hX1 := hX1.below ((Below.refl _ _).alloc (Nat.le_refl _) (.cells #[.slice O1 f5.length qq1, .slice O2 n5.length qq2, .slice O3 s5.length qq3, .slice O4 r5.length qq4, .slice O5 h5.length qq5] 52))
            replace hu := hu.below ((Below.refl _ _).alloc (Nat.le_refl _) (.cells #[.slice O1 f5.length qq1, .slice O2 n5.length qq2, .slice O3 s5.length qq3, .slice O4 r5.length qq4, .slice O5 h5.length qq5] 52))
            replace hX2 := hX2.below ((Below.refl _ _).alloc (Nat.le_refl _) (.cells #[.slice O1 f5.length qq1, .slice O2 n5.length qq2, .slice O3 s5.length qq3, .slice O4 r5.length qq4, .slice O5 h5.length qq5] 52))
            replace hQ := hQ.below ((Below.refl _ _).alloc (Nat.le_refl _) (.cells #[.slice O1 f5.length qq1, .slice O2 n5.length qq2, .slice O3 s5.length qq3, .slice O4 r5.length qq4, .slice O5 h5.length qq5] 52))
            replace hX3 := hX3.below ((Below.refl _ _).alloc (Nat.le_refl _) (.cells #[.slice O1 f5.length qq1, .slice O2 n5.length qq2, .slice O3 s5.length qq3, .slice O4 r5.length qq4, .slice O5 h5.length qq5] 52))
            replace ha := ha.below ((Below.refl _ _).alloc (Nat.le_refl _) (.cells #[.slice O1 f5.length qq1, .slice O2 n5.length qq2, .slice O3 s5.length qq3, .slice O4 r5.length qq4, .slice O5 h5.length qq5] 52))
            replace hX4 := hX4.below ((Below.refl _ _).alloc (Nat.le_refl _) (.cells #[.slice O1 f5.length qq1, .slice O2 n5.length qq2, .slice O3 s5.length qq3, .slice O4 r5.length qq4, .slice O5 h5.length qq5] 52))
            replace hM := hM.below ((Below.refl _ _).alloc (Nat.le_refl _) (.cells #[.slice O1 f5.length qq1, .slice O2 n5.length qq2, .slice O3 s5.length qq3, .slice O4 r5.length qq4, .slice O5 h5.length qq5] 52))
            replace hY1 := hY1.below ((Below.refl _ _).alloc (Nat.le_refl _) (.cells #[.slice O1 f5.length qq1, .slice O2 n5.length qq2, .slice O3 s5.length qq3, .slice O4 r5.length qq4, .slice O5 h5.length qq5] 52))
            replace hN := hN.below ((Below.refl _ _).alloc (Nat.le_refl _) (.cells #[.slice O1 f5.length qq1, .slice O2 n5.length qq2, .slice O3 s5.length qq3, .slice O4 r5.length qq4, .slice O5 h5.length qq5] 52))
            replace hY2 := hY2.below ((Below.refl _ _).alloc (Nat.le_refl _) (.cells #[.slice O1 f5.length qq1, .slice O2 n5.length qq2, .slice O3 s5.length qq3, .slice O4 r5.length qq4, .slice O5 h5.length qq5] 52))
            replace hO := hO.below ((Below.refl _ _).alloc (Nat.le_refl _) (.cells #[.slice O1 f5.length qq1, .slice O2 n5.length qq2, .slice O3 s5.length qq3, .slice O4 r5.length qq4, .slice O5 h5.length qq5] 52))
            replace hB := hB.alloc hB.size (.cells #[.slice O1 f5.length qq1, .slice O2 n5.length qq2, .slice O3 s5.length qq3, .slice O4 r5.length qq4, .slice O5 h5.length qq5] 52)
            have hY3 : cells5 w53.heap.size (.slice O1 f5.length qq1) (.slice O2 n5.length qq2) (.slice O3 s5.length qq3) (.slice O4 r5.length qq4) (.slice O5 h5.length qq5) (w53.alloc (.cells #[.slice O1 f5.length qq1, .slice O2 n5.length qq2, .slice O3 s5.length qq3, .slice O4 r5.length qq4, .slice O5 h5.length qq5] 52)) := cells5.new w53 (.slice O1 f5.length qq1) (.slice O2 n5.length qq2) (.slice O3 s5.length qq3) (.slice O4 r5.length qq4) (.slice O5 h5.length qq5) 52 _ rfl
            clear cT cA cB
            have cV1 : ∀ W, EA W N1 o1 f4 N2 o2 n4 N3 o3 s4 N4 o4 r4 N5 o5 h4 → Said W → Calls Tryz.prog 34 #[.agg #[.slice N1 f4.length o1, .slice N2 n4.length o2, .slice N3 s4.length o3, .slice N4 r4.length o4, .slice N5 h4.length o5]] W (RS2 App.cells 5 W V true) := fun W q hS => by have := RoomView_impl N1 o1 f4 N2 o2 n4 N3 o3 s4 N4 o4 r4 N5 o5 h4 W q hS; rw [k5.out] at this; exact this
            have cV2 : ∀ W, EA W O1 qq1 f5 O2 qq2 n5 O3 qq3 s5 O4 qq4 r5 O5 qq5 h5 → Said W → Calls Tryz.prog 34 #[.agg #[.slice O1 f5.length qq1, .slice O2 n5.length qq2, .slice O3 s5.length qq3, .slice O4 r5.length qq4, .slice O5 h5.length qq5]] W (RS2 App.cells 5 W V true) := fun W q hS => by have := RoomView_impl O1 qq1 f5 O2 qq2 n5 O3 qq3 s5 O4 qq4 r5 O5 qq5 h5 W q hS; rw [k6.out] at this; exact this
            obtain ⟨x0, x1, x2, x3, x4⟩ := id hY2
            go_wp2_with fail
            refine (cV1 _ hN (hS.below hB)).mono ?_
            rintro e w54 ⟨P1, p1, rfl, hSl, _, hb⟩
            replace hq := hq.below hb
            replace hX0 := hX0.below hb
            replace ht := ht.below hb
            replace hX1 := hX1.below hb
            replace hu := hu.below hb
            replace hX2 := hX2.below hb
            replace hQ := hQ.below hb
            replace hX3 := hX3.below hb
            replace ha := ha.below hb
            replace hX4 := hX4.below hb
            replace hM := hM.below hb
            replace hY1 := hY1.below hb
            replace hN := hN.below hb
            replace hY2 := hY2.below hb
            replace hO := hO.below hb
            replace hY3 := hY3.below hb
            replace hB := Below.on' hB hb
            have hV1 := AM.mk hSl.all
            clear hSl
            clear hb
            clear x0 x1 x2 x3 x4
            obtain ⟨x0, x1, x2, x3, x4⟩ := id hY3
            go_wp2_with fail
            refine (cV2 _ hO (hS.below hB)).mono ?_
            rintro e w55 ⟨P2, p2, rfl, hSl, _, hb⟩
            replace hq := hq.below hb
            replace hX0 := hX0.below hb
            replace ht := ht.below hb
            replace hX1 := hX1.below hb
            replace hu := hu.below hb
            replace hX2 := hX2.below hb
            replace hQ := hQ.below hb
            replace hX3 := hX3.below hb
            replace ha := ha.below hb
            replace hX4 := hX4.below hb
            replace hM := hM.below hb
            replace hY1 := hY1.below hb
            replace hN := hN.below hb
            replace hY2 := hY2.below hb
            replace hO := hO.below hb
            replace hY3 := hY3.below hb
            replace hV1 := hV1.below hb
            replace hB := Below.on' hB hb
            have hV2 := AM.mk hSl.all
            clear hSl
            clear hb
            clear x0 x1 x2 x3 x4
            clear cV1 cV2 hN hO hY2 hY3
            obtain ⟨x0, x1, x2, x3, x4⟩ := id hY1
            obtain ⟨y0, y1, y2, y3, y4⟩ := id hX2
            go_wp2_with fail
            refine (qEnds_any M1 m1 M2 m2 M3 m3 M4 m4 M5 m5 E1 e1 E2 e2 E3 e3 E4 e4 E5 e5 f2 n2 s2 r2 h2 _ L2e.f.1 L2e.n.1 L2e.s.1 L2e.r.1 L2e.h.1 hM.er.p1 hM.er.p2 hM.er.p3 hM.er.p4 hM.er.p5 hu.p1 hu.p2 hu.p3 hu.p4 hu.p5).mono ?_
            rintro e v1 ⟨rfl, hb⟩
            replace hq := hq.below hb
            replace hX0 := hX0.below hb
            replace ht := ht.below hb
            replace hX1 := hX1.below hb
            replace hu := hu.below hb
            replace hX2 := hX2.below hb
            replace hQ := hQ.below hb
            replace hX3 := hX3.below hb
            replace ha := ha.below hb
            replace hX4 := hX4.below hb
            replace hM := hM.below hb
            replace hY1 := hY1.below hb
            replace hV1 := hV1.below hb
            replace hV2 := hV2.below hb
            replace hB := Below.on' hB hb
            clear hb
            clear x0 x1 x2 x3 x4
            clear y0 y1 y2 y3 y4
            go_wp2_with fail
            refine (qFleet_any P1 P2 p1 p2 _ _ _ _ V _ hVl hV1.p hV2.p).mono ?_
            rintro e v2 ⟨rfl, hb⟩
            replace hq := hq.below hb
            replace hX0 := hX0.below hb
            replace ht := ht.below hb
            replace hX1 := hX1.below hb
            replace hu := hu.below hb
            replace hX2 := hX2.below hb
            replace hQ := hQ.below hb
            replace hX3 := hX3.below hb
            replace ha := ha.below hb
            replace hX4 := hX4.below hb
            replace hM := hM.below hb
            replace hY1 := hY1.below hb
            replace hV1 := hV1.below hb
            replace hV2 := hV2.below hb
            replace hB := Below.on' hB hb
            clear hb
            obtain ⟨x0, x1, x2, x3, x4⟩ := id hX1
            go_wp2_with fail
            refine (cE _ ht (hS.below hB)).mono ?_
            rintro e v3 ⟨rfl, hb⟩
            replace hq := hq.below hb
            replace hX0 := hX0.below hb
            replace ht := ht.below hb
            replace hX1 := hX1.below hb
            replace hu := hu.below hb
            replace hX2 := hX2.below hb
            replace hQ := hQ.below hb
            replace hX3 := hX3.below hb
            replace ha := ha.below hb
            replace hX4 := hX4.below hb
            replace hM := hM.below hb
            replace hY1 := hY1.below hb
            replace hV1 := hV1.below hb
            replace hV2 := hV2.below hb
            replace hB := Below.on' hB hb
            clear hb
            clear x0 x1 x2 x3 x4
            go_wp2_with fail
            go_meet
            exact ⟨rfl, hB, hQ, hX3, ha, hX4⟩
      case rest =>
        as_aux_lemma =>
          obtain ⟨rfl, hI⟩ := hcut
          clear hT L2e
          go_upto_if 246 with fail
          go_cut [4] from 316 (fun v wx => v = .bool false ∧ Below w.heap.size w wx)
          case first =>
            as_aux_lemma =>
              obtain ⟨hB, hQ, hX3, ha, hX4⟩ := hI
              cases one with
              | false =>
                go_wp2_with fail
                go_meet
                exact ⟨rfl, hB⟩
              | true =>
                have hpl : p.data.toList.length = p.size := Array.length_toList
                go_wp2_with fail
                go_loopw [43, 44] (fun bk i_ wr => ∃ (t : Nat) (u : ByteArray), t ≤ p.size ∧ i_ = .int .i64 ((t : Int) - 1) ∧ bk = .string u ∧ Hid (u.data.toList = (p.data.toList.drop t).reverse) ∧ u.size + t = p.size ∧ Below w.heap.size w wr ∧ EA wr B1 b1 f7 B2 b2 n7 B3 b3 s7 B4 b4 r7 B5 b5 h7 ∧ cells5 w4.heap.size (.slice B1 f7.length b1) (.slice B2 n7.length b2) (.slice B3 s7.length b3) (.slice B4 r7.length b4) (.slice B5 h7.length b5) wr ∧ EA wr F1 j1 f3 F2 j2 n3 F3 j3 s3 F4 j4 r3 F5 j5 h3 ∧ cells5 w5.heap.size (.slice F1 f3.length j1) (.slice F2 n3.length j2) (.slice F3 s3.length j3) (.slice F4 r3.length j4) (.slice F5 h3.length j5) wr) (fun _ i_ _ => (intOf i_ + 1).toNat)
                case atStart => exact ⟨p.size, ⟨#[]⟩, Nat.le_refl _, by first | go_num | rfl, rfl, Lib.hid (by rw [List.drop_of_length_le (by omega)]; rfl), Nat.zero_add p.size, hB, hQ, hX3, ha, hX4⟩
                case round =>
                  clear hB hQ hX3 ha hX4
                  obtain ⟨t, u, ht, rfl, rfl, hU, huz, hB, hQ, hX3, ha, hX4⟩ := hrel
                  by_cases hlt : 0 < t
                  ·
                    obtain ⟨k, rfl⟩ : ∃ k, t = k + 1 := ⟨t - 1, by omega⟩
                    have ek : (((k + 1 : Nat) : Int) - 1) = (k : Int) := by omega
                    rw [ek]
                    have hk0 : (0 : Int) ≤ (k : Int) := by omega
                    have hkp : k < p.size := by omega
                    have hkp2 : (k : Int) + 1 ≤ (p.size : Int) := by omega
                    have hkl : k < p.data.toList.length := by omega
                    have hcut : ((p.extract k (k + 1)).data.toList) = [p.data.toList[k]] := cut_one hkl
                    have hU2 : Hid ((u ++ p.extract k (k + 1)).data.toList = (p.data.toList.drop k).reverse) := Lib.hid (by
                      rw [ByteArray.data_append, Array.toList_append, hU.out, hcut, List.drop_eq_getElem_cons hkl, List.reverse_cons])
                    have hsz : (p.extract k (k + 1)).size = 1 := by
                      have := congrArg List.length hcut
                      rw [Array.length_toList] at this
                      exact this
                    have hsz2 : (u ++ p.extract k (k + 1)).size + k = p.size := by rw [ByteArray.size_append]; omega
                    clear hcut hU
                    generalize hG : p.extract k (k + 1) = g at hU2 hsz hsz2
                    go_wp2
                    go_roundw
                    case rel => exact ⟨k, u ++ g, Nat.le_of_lt hkp, by first | rfl | go_num, by rw [← hG], hU2, hsz2, hB, hQ, hX3, ha, hX4⟩
                    case measure => simp [intOf]
                  ·
                    obtain rfl : t = 0 := by omega
                    have hrev : u.data.toList = p.data.toList.reverse := by rw [hU.out, List.drop_zero]
                    obtain ⟨f6, n6, s6, r6, h6, V, k1, k2, k3⟩ := rst_facts hR.out rfl hrev
                    have L6e : EL f6 n6 s6 r6 h6 := by have := hQ.el.rst u; rw [k1] at this; exact this
                    have hVl : V.length ≤ 1048576 := by
                      have := viewT_len n6 s6 r6 h6 L6e.f.1
                      rw [k3] at this
                      exact this
                    have hus : u.size ≤ 1048576 := by omega
                    have cT : ∀ W, EA W B1 b1 f7 B2 b2 n7 B3 b3 s7 B4 b4 r7 B5 b5 h7 → Said W → Calls Tryz.prog 53 #[.agg #[.slice B1 f7.length b1, .slice B2 n7.length b2, .slice B3 s7.length b3, .slice B4 r7.length b4, .slice B5 h7.length b5], .string u] W (REX W f6 n6 s6 r6 h6 true) := fun W q hS => (RunStates_implC B1 b1 f7 B2 b2 n7 B3 b3 s7 B4 b4 r7 B5 b5 h7 u W q hus hS).mono fun e w' o => o.rex k1 L6e
                    have cV1 : ∀ W, EA W F1 j1 f3 F2 j2 n3 F3 j3 s3 F4 j4 r3 F5 j5 h3 → Said W → Calls Tryz.prog 34 #[.agg #[.slice F1 f3.length j1, .slice F2 n3.length j2, .slice F3 s3.length j3, .slice F4 r3.length j4, .slice F5 h3.length j5]] W (RS2 App.cells 5 W V true) := fun W q hS => by have := RoomView_impl F1 j1 f3 F2 j2 n3 F3 j3 s3 F4 j4 r3 F5 j5 h3 W q hS; rw [k2] at this; exact this
                    replace k3 := Lib.hid k3
                    have hneg : ¬ ((0 : Int) ≤ -1) := by omega
                    clear k1 k2 hU hrev huz
                    obtain ⟨x0, x1, x2, x3, x4⟩ := id hX3
                    go_wp2_with fail
                    refine (cT _ hQ (hS.below hB)).mono ?_
                    rintro e w71 ⟨M1, m1, M2, m2, M3, m3, M4, m4, M5, m5, rfl, hM, hb⟩
                    replace hQ := hQ.below hb
                    replace hX3 := hX3.below hb
                    replace ha := ha.below hb
                    replace hX4 := hX4.below hb
                    replace hB := Below.on' hB hb
                    clear hb
                    clear x0 x1 x2 x3 x4
                    replace hQ := hQ.below ((Below.refl _ _).alloc (Nat.le_refl _) (.cells #[.slice M1 f6.length m1, .slice M2 n6.length m2, .slice M3 s6.length m3, .slice M4 r6.length m4, .slice M5 h6.length m5] 52))
                    replace hX3 := hX3.below ((Below.refl _ _).alloc (Nat.le_refl _) (.cells #[.slice M1 f6.length m1, .slice M2 n6.length m2, .slice M3 s6.length m3, .slice M4 r6.length m4, .slice M5 h6.length m5] 52))
                    replace ha := ha.below ((Below.refl _ _).alloc (Nat.le_refl _) (.cells #[.slice M1 f6.length m1, .slice M2 n6.length m2, .slice M3 s6.length m3, .slice M4 r6.length m4, .slice M5 h6.length m5] 52))
                    replace hX4 := hX4.below ((Below.refl _ _).alloc (Nat.le_refl _) (.cells #[.slice M1 f6.length m1, .slice M2 n6.length m2, .slice M3 s6.length m3, .slice M4 r6.length m4, .slice M5 h6.length m5] 52))
                    replace hM := hM.below ((Below.refl _ _).alloc (Nat.le_refl _) (.cells #[.slice M1 f6.length m1, .slice M2 n6.length m2, .slice M3 s6.length m3, .slice M4 r6.length m4, .slice M5 h6.length m5] 52))
                    replace hB := hB.alloc hB.size (.cells #[.slice M1 f6.length m1, .slice M2 n6.length m2, .slice M3 s6.length m3, .slice M4 r6.length m4, .slice M5 h6.length m5] 52)
                    have hY1 : cells5 w71.heap.size (.slice M1 f6.length m1) (.slice M2 n6.length m2) (.slice M3 s6.length m3) (.slice M4 r6.length m4) (.slice M5 h6.length m5) (w71.alloc (.cells #[.slice M1 f6.length m1, .slice M2 n6.length m2, .slice M3 s6.length m3, .slice M4 r6.length m4, .slice M5 h6.length m5] 52)) := cells5.new w71 (.slice M1 f6.length m1) (.slice M2 n6.length m2) (.slice M3 s6.length m3) (.slice M4 r6.length m4) (.slice M5 h6.length m5) 52 _ rfl
                    obtain ⟨x0, x1, x2, x3, x4⟩ := id hX4
                    go_wp2_with fail
                    refine (cV1 _ ha (hS.below hB)).mono ?_
                    rintro e w72 ⟨P1, p1, rfl, hSl, _, hb⟩
                    replace hQ := hQ.below hb
                    replace hX3 := hX3.below hb
                    replace ha := ha.below hb
                    replace hX4 := hX4.below hb
                    replace hM := hM.below hb
                    replace hY1 := hY1.below hb
                    replace hB := Below.on' hB hb
                    have hV1 := AM.mk hSl.all
                    clear hSl
                    clear hb
                    clear x0 x1 x2 x3 x4
                    have cV2 : ∀ W, EA W M1 m1 f6 M2 m2 n6 M3 m3 s6 M4 m4 r6 M5 m5 h6 → Said W → Calls Tryz.prog 34 #[.agg #[.slice M1 f6.length m1, .slice M2 n6.length m2, .slice M3 s6.length m3, .slice M4 r6.length m4, .slice M5 h6.length m5]] W (RS2 App.cells 5 W V true) := fun W q hS => by have := RoomView_impl M1 m1 f6 M2 m2 n6 M3 m3 s6 M4 m4 r6 M5 m5 h6 W q hS; rw [k3.out] at this; exact this
                    obtain ⟨x0, x1, x2, x3, x4⟩ := id hY1
                    go_wp2_with fail
                    refine (cV2 _ hM (hS.below hB)).mono ?_
                    rintro e w73 ⟨P2, p2, rfl, hSl, _, hb⟩
                    replace hQ := hQ.below hb
                    replace hX3 := hX3.below hb
                    replace ha := ha.below hb
                    replace hX4 := hX4.below hb
                    replace hM := hM.below hb
                    replace hY1 := hY1.below hb
                    replace hV1 := hV1.below hb
                    replace hB := Below.on' hB hb
                    have hV2 := AM.mk hSl.all
                    clear hSl
                    clear hb
                    clear x0 x1 x2 x3 x4
                    clear cT cV1 cV2
                    go_wp2_with fail
                    refine (qFleet_any P1 P2 p1 p2 _ _ _ _ V _ hVl hV1.p hV2.p).mono ?_
                    rintro e v2 ⟨rfl, hb⟩
                    replace hQ := hQ.below hb
                    replace hX3 := hX3.below hb
                    replace ha := ha.below hb
                    replace hX4 := hX4.below hb
                    replace hM := hM.below hb
                    replace hY1 := hY1.below hb
                    replace hV1 := hV1.below hb
                    replace hV2 := hV2.below hb
                    replace hB := Below.on' hB hb
                    clear hb
                    go_wp2_with fail
                    go_meet
                    exact ⟨rfl, hB⟩
          case rest =>
            as_aux_lemma =>
              obtain ⟨rfl, hI⟩ := hcut
              clear hR L3e hp
              have hB := hI
              clear hI
              go_upto_if 293 with fail
              go_cut [4] from 316 (fun v wx => v = .bool false ∧ Below w.heap.size w wx)
              case first =>
                as_aux_lemma =>
                  cases five with
                  | false =>
                    go_wp2_with fail
                    go_meet
                    exact ⟨rfl, hB⟩
                  | true =>
                    obtain ⟨k1, rfl⟩ := sbT_yes hF.out rfl
                    have hz := size_st k1
                    go_wp2_with fail
                    refine (ParseStateBody_impl (stT sn) hz _ (hS.below hB)).mono ?_
                    rintro e w80 ⟨v3, b3, rfl, HR3, hb⟩
                    obtain ⟨rfl, rfl⟩ := (PsV.body k1).same HR3.out
                    replace hB := Below.on' hB hb
                    have hne : (v3 != v3) = false := by simp
                    clear hb HR3 k1 hF
                    go_wp2_with fail
                    go_meet
                    exact ⟨rfl, hB⟩
              case rest =>
                as_aux_lemma =>
                  obtain ⟨rfl, hI⟩ := hcut
                  clear hF
                  have hB := hI
                  clear hI
                  cases kb with
                  | false =>
                    clear hPv
                    go_wp2
                    go_ret
                    exact ⟨rfl, hB⟩
                  | true =>
                    obtain ⟨k1, k2⟩ := hPv.out.rng rfl
                    clear hPv
                    go_wp2
                    go_ret
                    exact ⟨rfl, hB⟩

theorem lay_met (os : Os) (args : Array Value) : laidMetH Tryz.prog Rows.fnReceivedRow.laid ((World.laidAll Tryz.prog os Rows.fnReceivedRow.laid).forCall (fun _ _ => 0) ⟨#[], args, []⟩).memory := by
  rw [MakeChecks.laidMetH_plain _ _ _ (by kernel_rfl)]
  exact laidMet_laidAll _ (by kernel_rfl) (by kernel_rfl)
set_option maxRecDepth 100000 in
theorem lifted (os : Os) (started : os.Started) (H : Type) (enc : TypeId × Value → H) :
    ReturnsInHanded {} Tryz.checked os 5 .any (fun w args => (Rows.fnReceivedSpec.pre enc Tryz.prog Tryz.f5 [] false w args ∧ laidMetH Tryz.prog Rows.fnReceivedRow.laid w) ∧ sizedMet enc Tryz.prog Tryz.f5 (OpenSpec.ofChange Rows.fnReceivedSpec) false w args) (Rows.fnReceivedSpec.post enc Tryz.prog Tryz.f5 false true false false) := by
  refine law_liftedD (C := Tryz.checked) own started (by kernel_rfl) Tryz.func5
    (ChangeSpec.witness_shaped (enc := enc) (C := Tryz.checked) (os := os) (X := fun w _ => laidMetH Tryz.prog Rows.fnReceivedRow.laid w) false (World.laidAll Tryz.prog os Rows.fnReceivedRow.laid) #[.slice none 0 0, .slice none 0 0] 8 (World.laidAll_os _ _ _) (World.shaped_of_ZipB (by kernel_rfl) (by kernel_rfl)) (by kernel_rfl) (by kernel_rfl) (by kernel_rfl) (lay_met os _))
    laidOut 4 (by kernel_rfl) Tryz.underlying4 (by kernel_rfl) rfl ?_ ?_
  · intro ds hds
    have hn : Tryz.f5.params.size = 2 := by kernel_rfl
    rw [hn] at hds
    match ds, hds with
    | [d0, d1], _ => rfl
  intro W base args ds p hval0 hA0 hlt hnf hL _hSh
  have hval : ∀ (j : Nat) t v, Tryz.f5.params[j]? = some t → args[j]? = some v → Value.okWide Tryz.prog W .any base t v := hval0
  have hA : DataW.TrodAll enc Tryz.prog W 0 (fun _ => true) true Tryz.f5.params.toList args.toList ds p := hA0
  clear hval0 hA0
  rw [Tryz.params5] at hA hval
  obtain ⟨v0, vs0, d0, ds0, p0, q0, hargs, rfl, rfl, h0, r0⟩ := trodAll_cons hA
  obtain ⟨v1, vs1, d1, ds1, p1, q1, rfl, rfl, rfl, h1, r1⟩ := trodAll_cons r0
  obtain ⟨rfl, rfl, rfl⟩ := trodAll_nil r1
  obtain rfl : args = #[v0, v1] := by cases args; simp_all
  obtain ⟨Aco, cco, co, rfl, hlco, hmco, hSco⟩ := Byt.openedS (hval 0 22 v0 rfl rfl) h0 (fun x hx => hlt x (by simp [hx])) (fun b o h => hnf b o (by simp [h]))
  obtain ⟨Amo, cmo, mo, rfl, hlmo, hmmo, hSmo⟩ := Byt.openedS (hval 1 22 v1 rfl rfl) h1 (fun x hx => hlt x (by simp [hx])) (fun b o h => hnf b o (by simp [h]))
  exact walk Aco cco co hlco hmco Amo cmo mo hlmo hmmo W hSco hSmo hL

theorem over : Rows.fnReceivedRow.holds Tryz.pinned (OpenSpec.ofChange Rows.fnReceivedSpec) :=
  OpenClaim.holds_of_wide 5 Tryz.f5 rfl rfl rfl rfl rfl rfl rfl ⟨rfl, rfl, rfl, rfl, rfl⟩ rfl rfl rfl rfl rfl (by kernel_rfl) Tryz.func5 (by kernel_rfl)
    (of_decide_eq_true (by kernel_rfl)) (by unfold Func.isWrapper; first | (rw [if_pos (by decide +kernel)]; kernel_rfl) | (rw [if_neg (by decide +kernel)]; exact ⟨rfl, rfl⟩))
    (fun os started H enc _ => lifted os started H enc)

theorem proved : Rows.FnReceivedCardSaid :=
  Claim7.holds_tied_plain_at .later [] [.data, .data, .data, .sentinel, .sentinel] true Rows.fnReceivedCard.stood.harness Rows.fnReceivedCard.stood.looks
    over (fun _ h => by cases h) (by kernel_rfl) (fun _ h => by cases h) fnReceived_row_tie rfl ⟨rfl, rfl⟩ (by kernel_rfl) rfl
    (fun f fn hf hfn => by
      obtain rfl : f = 5 := Option.some.inj ((show Tryz.prog.funcNamed "loop.example/g01020/laws.FnReceived" = some 5 by kernel_rfl).symm.trans hf) |>.symm
      obtain rfl : fn = Tryz.f5 := (Option.some.inj (Tryz.func5.symm.trans hfn)).symm
      exact ⟨by kernel_rfl, fun j t ht => by
        rw [Tryz.params5] at ht
        have hm : t ∈ [22] := by simpa using Array.mem_of_getElem? ht
        have hall : ([22].all fun u => !Tryz.prog.wantsStandIn u) = true := by kernel_rfl
        exact (show Tryz.prog.wantsStandIn t = false by simpa using List.all_eq_true.1 hall t hm)⟩)
    (by kernel_rfl)
#print axioms proved
end Go.Proofs.YtjmjilkpckbpeaaGreatDoor.lawReceived

/- FnEnds: for all drawn ends the law returns true. No conditions beyond the card's own: the listed variables are those that the program's text lays. -/
import Derived.Test.YtjmjilkpckbpeaaGreatDoorDrwT
import Derived.Test.YtjmjilkpckbpeaaGreatDoorEnM
import Derived.Test.YtjmjilkpckbpeaaGreatDoorSameEnds
import Derived.Test.YtjmjilkpckbpeaaGreatDoorEndV1
import Derived.Test.YtjmjilkpckbpeaaGreatDoorEndV2
import Derived.Test.YtjmjilkpckbpeaaGreatDoorEndBh
import Derived.Test.YtjmjilkpckbpeaaGreatDoorLR
import Derived.Test.YtjmjilkpckbpeaaGreatDoorStB
import Derived.Test.YtjmjilkpckbpeaaGreatDoorEndV3
import Derived.Test.YtjmjilkpckbpeaaGreatDoorEndV4
import Derived.Test.YtjmjilkpckbpeaaGreatDoorEndR2s
import Derived.Test.YtjmjilkpckbpeaaGreatDoorTie
import Derived.Test.YtjmjilkpckbpeaaGreatDoorCards
import Derived.SevenTiedAt
import Derived.Lay
import Derived.BigQuiet
import Derived.Deep.Cut
namespace Go.Proofs.YtjmjilkpckbpeaaGreatDoor.lawEnds
open Go.ChangeShapes Go.WideShapes Go.ChangeAt Go.RowKit Go.Joins Go.Proofs.YtjmjilkpckbpeaaGreatDoor

set_option maxRecDepth 100000 in
set_option maxHeartbeats 40000000 in
theorem walk (Aco : Option Addr) (cco : Nat) (co : List Int) (hl1 : co.length ≤ maxLen) (hmco : ∀ x ∈ co, 0 ≤ x ∧ x ≤ 255) (Amo : Option Addr) (cmo : Nat) (mo : List Int) (hl2 : mo.length ≤ maxLen) (hmmo : ∀ x ∈ mo, 0 ≤ x ∧ x ≤ 255) (w : World) (hSco : Sl byE 1 w 0 w.heap.size Aco co) (hSmo : Sl byE 1 w 0 w.heap.size Amo mo) (hL : laidMetH Tryz.prog Rows.fnEndsRow.laid w) :
    Calls Tryz.prog 4 #[.slice Aco co.length cco, .slice Amo mo.length cmo] w fun e w' => e = .returned (.bool true) ∧ Below w.heap.size w w' := by
  have hS : Said w := by
    have h : laidMet Tryz.prog Rows.fnEndsRow.laid w := by rw [MakeChecks.laidMetH_plain _ _ _ (by kernel_rfl)] at hL; exact hL
    exact said_at h.tail.tail h.tail.tail.tail
  clear hL
  by_cases hbig : wrap64 ((co.length : Int) + mo.length) ≤ 1048576
  rotate_left
  · have hbig' : 1048576 < wrap64 ((co.length : Int) + mo.length) := by omega
    go_enter Tryz.func4, Tryz.ntmps4
    go_wp2
    go_ret
    exact ⟨rfl, by go_grown⟩
  go_enter Tryz.func4, Tryz.ntmps4
  go_wp2_with fail
  refine (DrawTellState_any Aco cco co _ hl1 hmco hSco).mono ?_
  rintro e w1 ⟨A1, c1, f, A2, c2, n, A3, c3, s, A4, c4, r, A5, c5, h, nm, v, rfl, hnm, hE, hb⟩
  have hB := hb
  clear hb
  have hq := hE.ea
  clear hE
  replace hq := hq.below ((Below.refl _ _).alloc (Nat.le_refl _) (.cells #[.slice A1 f.length c1, .slice A2 n.length c2, .slice A3 s.length c3, .slice A4 r.length c4, .slice A5 h.length c5] 52))
  replace hB := hB.alloc hB.size (.cells #[.slice A1 f.length c1, .slice A2 n.length c2, .slice A3 s.length c3, .slice A4 r.length c4, .slice A5 h.length c5] 52)
  have hX0 : cells5 w1.heap.size (.slice A1 f.length c1) (.slice A2 n.length c2) (.slice A3 s.length c3) (.slice A4 r.length c4) (.slice A5 h.length c5) (w1.alloc (.cells #[.slice A1 f.length c1, .slice A2 n.length c2, .slice A3 s.length c3, .slice A4 r.length c4, .slice A5 h.length c5] 52)) := cells5.new w1 (.slice A1 f.length c1) (.slice A2 n.length c2) (.slice A3 s.length c3) (.slice A4 r.length c4) (.slice A5 h.length c5) 52 _ rfl
  have hel := hq.el
  obtain ⟨f2, n2, s2, r2, h2, ok, hT⟩ : ∃ f2 n2 s2 r2 h2 ok, Hid (telT f n s r h nm v = ((f2, n2, s2, r2, h2), ok)) := ⟨_, _, _, _, _, _, Lib.hid rfl⟩
  obtain ⟨f3, n3, s3, r3, h3, one, hR⟩ : ∃ f3 n3 s3 r3 h3 one, Hid (rallT f n s r h = ((f3, n3, s3, r3, h3), one)) := ⟨_, _, _, _, _, _, Lib.hid rfl⟩
  obtain ⟨V, hV⟩ : ∃ V, Hid (viewT f n s r h = (V, one)) := ⟨_, Lib.hid (Prod.ext rfl (by rw [view_snd, ← rall_snd, hR.out]))⟩
  obtain ⟨G, hG⟩ : ∃ G, Hid (agrT f n s r h = (G, one)) := ⟨_, Lib.hid (Prod.ext rfl (by rw [agr_snd, ← rall_snd, hR.out]))⟩
  have hon : endsB f n s r h = one := by rw [← rall_snd, hR.out]
  have L2e : EL f2 n2 s2 r2 h2 := by have := hel.tel v hnm; rw [hT.out] at this; exact this
  have L3e : EL f3 n3 s3 r3 h3 := by have := hel.rall; rw [hR.out] at this; exact this
  have cTi : ∀ W, EA W A1 c1 f A2 c2 n A3 c3 s A4 c4 r A5 c5 h → Said W → Calls Tryz.prog 30 #[.agg #[.slice A1 f.length c1, .slice A2 n.length c2, .slice A3 s.length c3, .slice A4 r.length c4, .slice A5 h.length c5], .string nm, .int .i64 v] W (REX W f2 n2 s2 r2 h2 ok) := fun W q hS => (TellState_implC A1 c1 f A2 c2 n A3 c3 s A4 c4 r A5 c5 h nm v W q hnm hS).mono fun e w' o => o.rex hT.out L2e
  have cTs : ∀ W, EA W A1 c1 f A2 c2 n A3 c3 s A4 c4 r A5 c5 h → Calls Tryz.prog 31 #[.agg #[.slice A1 f.length c1, .slice A2 n.length c2, .slice A3 s.length c3, .slice A4 r.length c4, .slice A5 h.length c5], .string nm, .int .i64 v] W (RER W f2 n2 s2 r2 h2 ok) := fun W q => (TellState_spec A1 c1 f A2 c2 n A3 c3 s A4 c4 r A5 c5 h nm v W q hnm).mono fun e w' o => RENT.rer o hT.out
  have cAi : ∀ W, EA W A1 c1 f A2 c2 n A3 c3 s A4 c4 r A5 c5 h → Said W → Calls Tryz.prog 32 #[.agg #[.slice A1 f.length c1, .slice A2 n.length c2, .slice A3 s.length c3, .slice A4 r.length c4, .slice A5 h.length c5]] W (REX W f3 n3 s3 r3 h3 one) := fun W q hS => (ReceiveAll_implC A1 c1 f A2 c2 n A3 c3 s A4 c4 r A5 c5 h W q hS).mono fun e w' o => o.rex hR.out L3e
  have cAs : ∀ W, EA W A1 c1 f A2 c2 n A3 c3 s A4 c4 r A5 c5 h → Calls Tryz.prog 33 #[.agg #[.slice A1 f.length c1, .slice A2 n.length c2, .slice A3 s.length c3, .slice A4 r.length c4, .slice A5 h.length c5]] W (RER W f3 n3 s3 r3 h3 one) := fun W q => (ReceiveAll_spec A1 c1 f A2 c2 n A3 c3 s A4 c4 r A5 c5 h W q).mono fun e w' o => RENT.rer o hR.out
  have cVi : ∀ W, EA W A1 c1 f A2 c2 n A3 c3 s A4 c4 r A5 c5 h → Said W → Calls Tryz.prog 34 #[.agg #[.slice A1 f.length c1, .slice A2 n.length c2, .slice A3 s.length c3, .slice A4 r.length c4, .slice A5 h.length c5]] W (RS2 App.cells 5 W V one) := fun W q hS => by have := RoomView_impl A1 c1 f A2 c2 n A3 c3 s A4 c4 r A5 c5 h W q hS; rw [hV.out] at this; exact this
  have cVs : ∀ W, EA W A1 c1 f A2 c2 n A3 c3 s A4 c4 r A5 c5 h → Calls Tryz.prog 35 #[.agg #[.slice A1 f.length c1, .slice A2 n.length c2, .slice A3 s.length c3, .slice A4 r.length c4, .slice A5 h.length c5]] W (RS2 App.cells 5 W V one) := fun W q => by have := RoomView_spec A1 c1 f A2 c2 n A3 c3 s A4 c4 r A5 c5 h W q; rw [hV.out] at this; exact this
  have cGi : ∀ W, EA W A1 c1 f A2 c2 n A3 c3 s A4 c4 r A5 c5 h → Said W → Calls Tryz.prog 36 #[.agg #[.slice A1 f.length c1, .slice A2 n.length c2, .slice A3 s.length c3, .slice A4 r.length c4, .slice A5 h.length c5]] W (RS2 Strs.cells 1 W G one) := fun W q hS => by have := AgreeOn_impl A1 c1 f A2 c2 n A3 c3 s A4 c4 r A5 c5 h W q hS; rw [hG.out] at this; exact this
  have cGs : ∀ W, EA W A1 c1 f A2 c2 n A3 c3 s A4 c4 r A5 c5 h → Calls Tryz.prog 37 #[.agg #[.slice A1 f.length c1, .slice A2 n.length c2, .slice A3 s.length c3, .slice A4 r.length c4, .slice A5 h.length c5]] W (RS2 Strs.cells 1 W G one) := fun W q => by have := AgreeOn_spec A1 c1 f A2 c2 n A3 c3 s A4 c4 r A5 c5 h W q; rw [hG.out] at this; exact this
  have cE : ∀ W, EA W A1 c1 f A2 c2 n A3 c3 s A4 c4 r A5 c5 h → Said W → Calls Tryz.prog 44 #[.agg #[.slice A1 f.length c1, .slice A2 n.length c2, .slice A3 s.length c3, .slice A4 r.length c4, .slice A5 h.length c5]] W (RV W (.bool one)) := fun W q hS => by have := AreEnds_impl A1 c1 f A2 c2 n A3 c3 s A4 c4 r A5 c5 h W q.lf q.mf q.Sf q.ln q.mn q.Sn q.ls q.ms q.Ss q.ks q.lr q.mr q.Sr q.kr q.lh q.mh q.Sh q.kh hS; rw [hon] at this; exact this
  have hok : ok = true → one = true := fun g => by rw [← hon]; exact tel_ends (by rw [hT.out]; exact g)
  have hVl : V.length ≤ 1048576 := by
    have := viewT_len n s r h hel.f.1
    rw [hV.out] at this
    exact this
  have hGl : G.length ≤ 1048576 := by
    have := agrT_len n s r h hel.f.1
    rw [hG.out] at this
    exact this
  replace hok := Lib.hid hok
  replace hon := Lib.hid hon
  clear hel
  obtain ⟨x0, x1, x2, x3, x4⟩ := id hX0
  go_wp2_with fail
  refine (cTi _ hq (hS.below hB)).mono ?_
  rintro e w2 ⟨D1, d1, D2, d2, D3, d3, D4, d4, D5, d5, rfl, ht, hb⟩
  replace hq := hq.below hb
  replace hX0 := hX0.below hb
  replace hB := Below.on' hB hb
  clear hb
  clear x0 x1 x2 x3 x4
  replace hq := hq.below ((Below.refl _ _).alloc (Nat.le_refl _) (.cells #[.slice D1 f2.length d1, .slice D2 n2.length d2, .slice D3 s2.length d3, .slice D4 r2.length d4, .slice D5 h2.length d5] 52))
  replace hX0 := hX0.below ((Below.refl _ _).alloc (Nat.le_refl _) (.cells #[.slice D1 f2.length d1, .slice D2 n2.length d2, .slice D3 s2.length d3, .slice D4 r2.length d4, .slice D5 h2.length d5] 52))
  replace ht := ht.below ((Below.refl _ _).alloc (Nat.le_refl _) (.cells #[.slice D1 f2.length d1, .slice D2 n2.length d2, .slice D3 s2.length d3, .slice D4 r2.length d4, .slice D5 h2.length d5] 52))
  replace hB := hB.alloc hB.size (.cells #[.slice D1 f2.length d1, .slice D2 n2.length d2, .slice D3 s2.length d3, .slice D4 r2.length d4, .slice D5 h2.length d5] 52)
  have hX1 : cells5 w2.heap.size (.slice D1 f2.length d1) (.slice D2 n2.length d2) (.slice D3 s2.length d3) (.slice D4 r2.length d4) (.slice D5 h2.length d5) (w2.alloc (.cells #[.slice D1 f2.length d1, .slice D2 n2.length d2, .slice D3 s2.length d3, .slice D4 r2.length d4, .slice D5 h2.length d5] 52)) := cells5.new w2 (.slice D1 f2.length d1) (.slice D2 n2.length d2) (.slice D3 s2.length d3) (.slice D4 r2.length d4) (.slice D5 h2.length d5) 52 _ rfl
  obtain ⟨x0, x1, x2, x3, x4⟩ := id hX0
  go_wp2_with fail
  refine (cTs _ hq).mono ?_
  rintro e w3 ⟨E1, e1, E2, e2, E3, e3, E4, e4, E5, e5, rfl, hu, hb⟩
  replace hq := hq.below hb
  replace hX0 := hX0.below hb
  replace ht := ht.below hb
  replace hX1 := hX1.below hb
  replace hB := Below.on' hB hb
  clear hb
  clear x0 x1 x2 x3 x4
  replace hq := hq.below ((Below.refl _ _).alloc (Nat.le_refl _) (.cells #[.slice E1 f2.length e1, .slice E2 n2.length e2, .slice E3 s2.length e3, .slice E4 r2.length e4, .slice E5 h2.length e5] 52))
  replace hX0 := hX0.below ((Below.refl _ _).alloc (Nat.le_refl _) (.cells #[.slice E1 f2.length e1, .slice E2 n2.length e2, .slice E3 s2.length e3, .slice E4 r2.length e4, .slice E5 h2.length e5] 52))
  replace ht := ht.below ((Below.refl _ _).alloc (Nat.le_refl _) (.cells #[.slice E1 f2.length e1, .slice E2 n2.length e2, .slice E3 s2.length e3, .slice E4 r2.length e4, .slice E5 h2.length e5] 52))
  replace hX1 := hX1.below ((Below.refl _ _).alloc (Nat.le_refl _) (.cells #[.slice E1 f2.length e1, .slice E2 n2.length e2, .slice E3 s2.length e3, .slice E4 r2.length e4, .slice E5 h2.length e5] 52))
  replace hu := hu.below ((Below.refl _ _).alloc (Nat.le_refl _) (.cells #[.slice E1 f2.length e1, .slice E2 n2.length e2, .slice E3 s2.length e3, .slice E4 r2.length e4, .slice E5 h2.length e5] 52))
  replace hB := hB.alloc hB.size (.cells #[.slice E1 f2.length e1, .slice E2 n2.length e2, .slice E3 s2.length e3, .slice E4 r2.length e4, .slice E5 h2.length e5] 52)
  have hX2 : cells5 w3.heap.size (.slice E1 f2.length e1) (.slice E2 n2.length e2) (.slice E3 s2.length e3) (.slice E4 r2.length e4) (.slice E5 h2.length e5) (w3.alloc (.cells #[.slice E1 f2.length e1, .slice E2 n2.length e2, .slice E3 s2.length e3, .slice E4 r2.length e4, .slice E5 h2.length e5] 52)) := cells5.new w3 (.slice E1 f2.length e1) (.slice E2 n2.length e2) (.slice E3 s2.length e3) (.slice E4 r2.length e4) (.slice E5 h2.length e5) 52 _ rfl
  obtain ⟨x0, x1, x2, x3, x4⟩ := id hX0
  go_wp2_with fail
  refine (cAi _ hq (hS.below hB)).mono ?_
  rintro e w4 ⟨F1, j1, F2, j2, F3, j3, F4, j4, F5, j5, rfl, ha, hb⟩
  replace hq := hq.below hb
  replace hX0 := hX0.below hb
  replace ht := ht.below hb
  replace hX1 := hX1.below hb
  replace hu := hu.below hb
  replace hX2 := hX2.below hb
  replace hB := Below.on' hB hb
  clear hb
  clear x0 x1 x2 x3 x4
  replace hq := hq.below ((Below.refl _ _).alloc (Nat.le_refl _) (.cells #[.slice F1 f3.length j1, .slice F2 n3.length j2, .slice F3 s3.length j3, .slice F4 r3.length j4, .slice F5 h3.length j5] 52))
  replace hX0 := hX0.below ((Below.refl _ _).alloc (Nat.le_refl _) (.cells #[.slice F1 f3.length j1, .slice F2 n3.length j2, .slice F3 s3.length j3, .slice F4 r3.length j4, .slice F5 h3.length j5] 52))
  replace ht := ht.below ((Below.refl _ _).alloc (Nat.le_refl _) (.cells #[.slice F1 f3.length j1, .slice F2 n3.length j2, .slice F3 s3.length j3, .slice F4 r3.length j4, .slice F5 h3.length j5] 52))
  replace hX1 := hX1.below ((Below.refl _ _).alloc (Nat.le_refl _) (.cells #[.slice F1 f3.length j1, .slice F2 n3.length j2, .slice F3 s3.length j3, .slice F4 r3.length j4, .slice F5 h3.length j5] 52))
  replace hu := hu.below ((Below.refl _ _).alloc (Nat.le_refl _) (.cells #[.slice F1 f3.length j1, .slice F2 n3.length j2, .slice F3 s3.length j3, .slice F4 r3.length j4, .slice F5 h3.length j5] 52))
  replace hX2 := hX2.below ((Below.refl _ _).alloc (Nat.le_refl _) (.cells #[.slice F1 f3.length j1, .slice F2 n3.length j2, .slice F3 s3.length j3, .slice F4 r3.length j4, .slice F5 h3.length j5] 52))
  replace ha := ha.below ((Below.refl _ _).alloc (Nat.le_refl _) (.cells #[.slice F1 f3.length j1, .slice F2 n3.length j2, .slice F3 s3.length j3, .slice F4 r3.length j4, .slice F5 h3.length j5] 52))
  replace hB := hB.alloc hB.size (.cells #[.slice F1 f3.length j1, .slice F2 n3.length j2, .slice F3 s3.length j3, .slice F4 r3.length j4, .slice F5 h3.length j5] 52)
  have hX3 : cells5 w4.heap.size (.slice F1 f3.length j1) (.slice F2 n3.length j2) (.slice F3 s3.length j3) (.slice F4 r3.length j4) (.slice F5 h3.length j5) (w4.alloc (.cells #[.slice F1 f3.length j1, .slice F2 n3.length j2, .slice F3 s3.length j3, .slice F4 r3.length j4, .slice F5 h3.length j5] 52)) := cells5.new w4 (.slice F1 f3.length j1) (.slice F2 n3.length j2) (.slice F3 s3.length j3) (.slice F4 r3.length j4) (.slice F5 h3.length j5) 52 _ rfl
  obtain ⟨x0, x1, x2, x3, x4⟩ := id hX0
  go_wp2_with fail
  refine (cAs _ hq).mono ?_
  rintro e w5 ⟨H1, k1, H2, k2, H3, k3, H4, k4, H5, k5, rfl, hy, hb⟩
  replace hq := hq.below hb
  replace hX0 := hX0.below hb
  replace ht := ht.below hb
  replace hX1 := hX1.below hb
  replace hu := hu.below hb
  replace hX2 := hX2.below hb
  replace ha := ha.below hb
  replace hX3 := hX3.below hb
  replace hB := Below.on' hB hb
  clear hb
  clear x0 x1 x2 x3 x4
  replace hq := hq.below ((Below.refl _ _).alloc (Nat.le_refl _) (.cells #[.slice H1 f3.length k1, .slice H2 n3.length k2, .slice H3 s3.length k3, .slice H4 r3.length k4, .slice H5 h3.length k5] 52))
  replace hX0 := hX0.below ((Below.refl _ _).alloc (Nat.le_refl _) (.cells #[.slice H1 f3.length k1, .slice H2 n3.length k2, .slice H3 s3.length k3, .slice H4 r3.length k4, .slice H5 h3.length k5] 52))
  replace ht := ht.below ((Below.refl _ _).alloc (Nat.le_refl _) (.cells #[.slice H1 f3.length k1, .slice H2 n3.length k2, .slice H3 s3.length k3, .slice H4 r3.length k4, .slice H5 h3.length k5] 52))
  replace hX1 := hX1.below ((Below.refl _ _).alloc (Nat.le_refl _) (.cells #[.slice H1 f3.length k1, .slice H2 n3.length k2, .slice H3 s3.length k3, .slice H4 r3.length k4, .slice H5 h3.length k5] 52))
  replace hu := hu.below ((Below.refl _ _).alloc (Nat.le_refl _) (.cells #[.slice H1 f3.length k1, .slice H2 n3.length k2, .slice H3 s3.length k3, .slice H4 r3.length k4, .slice H5 h3.length k5] 52))
  replace hX2 := hX2.below ((Below.refl _ _).alloc (Nat.le_refl _) (.cells #[.slice H1 f3.length k1, .slice H2 n3.length k2, .slice H3 s3.length k3, .slice H4 r3.length k4, .slice H5 h3.length k5] 52))
  replace ha := ha.below ((Below.refl _ _).alloc (Nat.le_refl _) (.cells #[.slice H1 f3.length k1, .slice H2 n3.length k2, .slice H3 s3.length k3, .slice H4 r3.length k4, .slice H5 h3.length k5] 52))
  replace hX3 := hX3.below ((Below.refl _ _).alloc (Nat.le_refl _) (.cells #[.slice H1 f3.length k1, .slice H2 n3.length k2, .slice H3 s3.length k3, .slice H4 r3.length k4, .slice H5 h3.length k5] 52))
  replace hy := hy.below ((Below.refl _ _).alloc (Nat.le_refl _) (.cells #[.slice H1 f3.length k1, .slice H2 n3.length k2, .slice H3 s3.length k3, .slice H4 r3.length k4, .slice H5 h3.length k5] 52))
  replace hB := hB.alloc hB.size (.cells #[.slice H1 f3.length k1, .slice H2 n3.length k2, .slice H3 s3.length k3, .slice H4 r3.length k4, .slice H5 h3.length k5] 52)
  have hX4 : cells5 w5.heap.size (.slice H1 f3.length k1) (.slice H2 n3.length k2) (.slice H3 s3.length k3) (.slice H4 r3.length k4) (.slice H5 h3.length k5) (w5.alloc (.cells #[.slice H1 f3.length k1, .slice H2 n3.length k2, .slice H3 s3.length k3, .slice H4 r3.length k4, .slice H5 h3.length k5] 52)) := cells5.new w5 (.slice H1 f3.length k1) (.slice H2 n3.length k2) (.slice H3 s3.length k3) (.slice H4 r3.length k4) (.slice H5 h3.length k5) 52 _ rfl
  obtain ⟨x0, x1, x2, x3, x4⟩ := id hX0
  go_wp2_with fail
  refine (cVi _ hq (hS.below hB)).mono ?_
  rintro e w6 ⟨P1, p1, rfl, hSl, _, hb⟩
  replace hq := hq.below hb
  replace hX0 := hX0.below hb
  replace ht := ht.below hb
  replace hX1 := hX1.below hb
  replace hu := hu.below hb
  replace hX2 := hX2.below hb
  replace ha := ha.below hb
  replace hX3 := hX3.below hb
  replace hy := hy.below hb
  replace hX4 := hX4.below hb
  replace hB := Below.on' hB hb
  have hV1 := AM.mk hSl.all
  clear hSl
  clear hb
  clear x0 x1 x2 x3 x4
  obtain ⟨x0, x1, x2, x3, x4⟩ := id hX0
  go_wp2_with fail
  refine (cVs _ hq).mono ?_
  rintro e w7 ⟨P2, p2, rfl, hSl, _, hb⟩
  replace hq := hq.below hb
  replace hX0 := hX0.below hb
  replace ht := ht.below hb
  replace hX1 := hX1.below hb
  replace hu := hu.below hb
  replace hX2 := hX2.below hb
  replace ha := ha.below hb
  replace hX3 := hX3.below hb
  replace hy := hy.below hb
  replace hX4 := hX4.below hb
  replace hV1 := hV1.below hb
  replace hB := Below.on' hB hb
  have hV2 := AM.mk hSl.all
  clear hSl
  clear hb
  clear x0 x1 x2 x3 x4
  obtain ⟨x0, x1, x2, x3, x4⟩ := id hX0
  go_wp2_with fail
  refine (cGi _ hq (hS.below hB)).mono ?_
  rintro e w8 ⟨Q1, g1, rfl, hSl, _, hb⟩
  replace hq := hq.below hb
  replace hX0 := hX0.below hb
  replace ht := ht.below hb
  replace hX1 := hX1.below hb
  replace hu := hu.below hb
  replace hX2 := hX2.below hb
  replace ha := ha.below hb
  replace hX3 := hX3.below hb
  replace hy := hy.below hb
  replace hX4 := hX4.below hb
  replace hV1 := hV1.below hb
  replace hV2 := hV2.below hb
  replace hB := Below.on' hB hb
  have hG1 := SM.mk hSl.all
  clear hSl
  clear hb
  clear x0 x1 x2 x3 x4
  obtain ⟨x0, x1, x2, x3, x4⟩ := id hX0
  go_wp2_with fail
  refine (cGs _ hq).mono ?_
  rintro e w9 ⟨Q2, g2, rfl, hSl, _, hb⟩
  replace hq := hq.below hb
  replace hX0 := hX0.below hb
  replace ht := ht.below hb
  replace hX1 := hX1.below hb
  replace hu := hu.below hb
  replace hX2 := hX2.below hb
  replace ha := ha.below hb
  replace hX3 := hX3.below hb
  replace hy := hy.below hb
  replace hX4 := hX4.below hb
  replace hV1 := hV1.below hb
  replace hV2 := hV2.below hb
  replace hG1 := hG1.below hb
  replace hB := Below.on' hB hb
  have hG2 := SM.mk hSl.all
  clear hSl
  clear hb
  clear x0 x1 x2 x3 x4
  clear cTi cTs cAi cAs cVi cVs cGi cGs
  go_wp2_with fail
  refine (DrawStartEnds_any Amo cmo mo _ hl2 hmmo (hSmo.below hB).all).mono ?_
  rintro e w10 ⟨A6, c6, l, rfl, hl13, hlm, hLl, hb⟩
  replace hq := hq.below hb
  replace hX0 := hX0.below hb
  replace ht := ht.below hb
  replace hX1 := hX1.below hb
  replace hu := hu.below hb
  replace hX2 := hX2.below hb
  replace ha := ha.below hb
  replace hX3 := hX3.below hb
  replace hy := hy.below hb
  replace hX4 := hX4.below hb
  replace hV1 := hV1.below hb
  replace hV2 := hV2.below hb
  replace hG1 := hG1.below hb
  replace hG2 := hG2.below hb
  replace hB := Below.on' hB hb
  have hLL := AM.mk hLl
  clear hLl
  clear hb
  have hsl : smF l := ⟨by omega, fun y hy => by have := hlm y hy; omega⟩
  obtain ⟨l1, l2, sev, hZ⟩ : ∃ l1 l2 sev, Hid (seT l = ((l1, l2), sev)) := ⟨_, _, _, Lib.hid rfl⟩
  have L4e := seT_small hZ.out hsl
  have cSi : ∀ W, Apps W 0 W.heap.size A6 l → Calls Tryz.prog 39 #[.slice A6 l.length c6] W (REX W l1 l2 [] [] [] sev) := fun W q => by
    have := StartEnds_impl A6 c6 l W hsl.1 hsl.2 q
    rw [hZ.out] at this
    exact this.mono fun e w' o => o.rex L4e
  have cSs : ∀ W, Apps W 0 W.heap.size A6 l → Calls Tryz.prog 40 #[.slice A6 l.length c6] W (REX W l1 l2 [] [] [] sev) := fun W q => by
    have := StartEnds_spec A6 c6 l W hsl.1 hsl.2 q
    rw [hZ.out] at this
    exact this.mono fun e w' o => o.rex L4e
  clear hlm hsl
  go_wp2_with fail
  refine (cSi _ hLL.p).mono ?_
  rintro e w11 ⟨M1, m1, M2, m2, M3, m3, M4, m4, M5, m5, rfl, hs, hb⟩
  replace hq := hq.below hb
  replace hX0 := hX0.below hb
  replace ht := ht.below hb
  replace hX1 := hX1.below hb
  replace hu := hu.below hb
  replace hX2 := hX2.below hb
  replace ha := ha.below hb
  replace hX3 := hX3.below hb
  replace hy := hy.below hb
  replace hX4 := hX4.below hb
  replace hV1 := hV1.below hb
  replace hV2 := hV2.below hb
  replace hG1 := hG1.below hb
  replace hG2 := hG2.below hb
  replace hLL := hLL.below hb
  replace hB := Below.on' hB hb
  clear hb
  replace hq := hq.below ((Below.refl _ _).alloc (Nat.le_refl _) (.cells #[.slice M1 l1.length m1, .slice M2 l2.length m2, .slice M3 0 m3, .slice M4 0 m4, .slice M5 0 m5] 52))
  replace hX0 := hX0.below ((Below.refl _ _).alloc (Nat.le_refl _) (.cells #[.slice M1 l1.length m1, .slice M2 l2.length m2, .slice M3 0 m3, .slice M4 0 m4, .slice M5 0 m5] 52))
  replace ht := ht.below ((Below.refl _ _).alloc (Nat.le_refl _) (.cells #[.slice M1 l1.length m1, .slice M2 l2.length m2, .slice M3 0 m3, .slice M4 0 m4, .slice M5 0 m5] 52))
  replace hX1 := hX1.below ((Below.refl _ _).alloc (Nat.le_refl _) (.cells #[.slice M1 l1.length m1, .slice M2 l2.length m2, .slice M3 0 m3, .slice M4 0 m4, .slice M5 0 m5] 52))
  replace hu := hu.below ((Below.refl _ _).alloc (Nat.le_refl _) (.cells #[.slice M1 l1.length m1, .slice M2 l2.length m2, .slice M3 0 m3, .slice M4 0 m4, .slice M5 0 m5] 52))
  replace hX2 := hX2.below ((Below.refl _ _).alloc (Nat.le_refl _) (.cells #[.slice M1 l1.length m1, .slice M2 l2.length m2, .slice M3 0 m3, .slice M4 0 m4, .slice M5 0 m5] 52))
  replace ha := ha.below ((Below.refl _ _).alloc (Nat.le_refl _) (.cells #[.slice M1 l1.length m1, .slice M2 l2.length m2, .slice M3 0 m3, .slice M4 0 m4, .slice M5 0 m5] 52))
  replace hX3 := hX3.below ((Below.refl _ _).alloc (Nat.le_refl _) (.cells #[.slice M1 l1.length m1, .slice M2 l2.length m2, .slice M3 0 m3, .slice M4 0 m4, .slice M5 0 m5] 52))
  replace hy := hy.below ((Below.refl _ _).alloc (Nat.le_refl _) (.cells #[.slice M1 l1.length m1, .slice M2 l2.length m2, .slice M3 0 m3, .slice M4 0 m4, .slice M5 0 m5] 52))
  replace hX4 := hX4.below ((Below.refl _ _).alloc (Nat.le_refl _) (.cells #[.slice M1 l1.length m1, .slice M2 l2.length m2, .slice M3 0 m3, .slice M4 0 m4, .slice M5 0 m5] 52))
  replace hV1 := hV1.below ((Below.refl _ _).alloc (Nat.le_refl _) (.cells #[.slice M1 l1.length m1, .slice M2 l2.length m2, .slice M3 0 m3, .slice M4 0 m4, .slice M5 0 m5] 52))
  replace hV2 := hV2.below ((Below.refl _ _).alloc (Nat.le_refl _) (.cells #[.slice M1 l1.length m1, .slice M2 l2.length m2, .slice M3 0 m3, .slice M4 0 m4, .slice M5 0 m5] 52))
  replace hG1 := hG1.below ((Below.refl _ _).alloc (Nat.le_refl _) (.cells #[.slice M1 l1.length m1, .slice M2 l2.length m2, .slice M3 0 m3, .slice M4 0 m4, .slice M5 0 m5] 52))
  replace hG2 := hG2.below ((Below.refl _ _).alloc (Nat.le_refl _) (.cells #[.slice M1 l1.length m1, .slice M2 l2.length m2, .slice M3 0 m3, .slice M4 0 m4, .slice M5 0 m5] 52))
  replace hLL := hLL.below ((Below.refl _ _).alloc (Nat.le_refl _) (.cells #[.slice M1 l1.length m1, .slice M2 l2.length m2, .slice M3 0 m3, .slice M4 0 m4, .slice M5 0 m5] 52))
  replace hs := hs.below ((Below.refl _ _).alloc (Nat.le_refl _) (.cells #[.slice M1 l1.length m1, .slice M2 l2.length m2, .slice M3 0 m3, .slice M4 0 m4, .slice M5 0 m5] 52))
  replace hB := hB.alloc hB.size (.cells #[.slice M1 l1.length m1, .slice M2 l2.length m2, .slice M3 0 m3, .slice M4 0 m4, .slice M5 0 m5] 52)
  have hX5 : cells5 w11.heap.size (.slice M1 l1.length m1) (.slice M2 l2.length m2) (.slice M3 0 m3) (.slice M4 0 m4) (.slice M5 0 m5) (w11.alloc (.cells #[.slice M1 l1.length m1, .slice M2 l2.length m2, .slice M3 0 m3, .slice M4 0 m4, .slice M5 0 m5] 52)) := cells5.new w11 (.slice M1 l1.length m1) (.slice M2 l2.length m2) (.slice M3 0 m3) (.slice M4 0 m4) (.slice M5 0 m5) 52 _ rfl
  go_wp2_with fail
  refine (cSs _ hLL.p).mono ?_
  rintro e w12 ⟨N1, o1, N2, o2, N3, o3, N4, o4, N5, o5, rfl, hz, hb⟩
  replace hq := hq.below hb
  replace hX0 := hX0.below hb
  replace ht := ht.below hb
  replace hX1 := hX1.below hb
  replace hu := hu.below hb
  replace hX2 := hX2.below hb
  replace ha := ha.below hb
  replace hX3 := hX3.below hb
  replace hy := hy.below hb
  replace hX4 := hX4.below hb
  replace hV1 := hV1.below hb
  replace hV2 := hV2.below hb
  replace hG1 := hG1.below hb
  replace hG2 := hG2.below hb
  replace hLL := hLL.below hb
  replace hs := hs.below hb
  replace hX5 := hX5.below hb
  replace hB := Below.on' hB hb
  clear hb
  replace hq := hq.below ((Below.refl _ _).alloc (Nat.le_refl _) (.cells #[.slice N1 l1.length o1, .slice N2 l2.length o2, .slice N3 0 o3, .slice N4 0 o4, .slice N5 0 o5] 52))
  replace hX0 := hX0.below ((Below.refl _ _).alloc (Nat.le_refl _) (.cells #[.slice N1 l1.length o1, .slice N2 l2.length o2, .slice N3 0 o3, .slice N4 0 o4, .slice N5 0 o5] 52))
  replace ht := ht.below ((Below.refl _ _).alloc (Nat.le_refl _) (.cells #[.slice N1 l1.length o1, .slice N2 l2.length o2, .slice N3 0 o3, .slice N4 0 o4, .slice N5 0 o5] 52))
  replace hX1 := hX1.below ((Below.refl _ _).alloc (Nat.le_refl _) (.cells #[.slice N1 l1.length o1, .slice N2 l2.length o2, .slice N3 0 o3, .slice N4 0 o4, .slice N5 0 o5] 52))
  replace hu := hu.below ((Below.refl _ _).alloc (Nat.le_refl _) (.cells #[.slice N1 l1.length o1, .slice N2 l2.length o2, .slice N3 0 o3, .slice N4 0 o4, .slice N5 0 o5] 52))
  replace hX2 := hX2.below ((Below.refl _ _).alloc (Nat.le_refl _) (.cells #[.slice N1 l1.length o1, .slice N2 l2.length o2, .slice N3 0 o3, .slice N4 0 o4, .slice N5 0 o5] 52))
  replace ha := ha.below ((Below.refl _ _).alloc (Nat.le_refl _) (.cells #[.slice N1 l1.length o1, .slice N2 l2.length o2, .slice N3 0 o3, .slice N4 0 o4, .slice N5 0 o5] 52))
  replace hX3 := hX3.below ((Below.refl _ _).alloc (Nat.le_refl _) (.cells #[.slice N1 l1.length o1, .slice N2 l2.length o2, .slice N3 0 o3, .slice N4 0 o4, .slice N5 0 o5] 52))
  replace hy := hy.below ((Below.refl _ _).alloc (Nat.le_refl _) (.cells #[.slice N1 l1.length o1, .slice N2 l2.length o2, .slice N3 0 o3, .slice N4 0 o4, .slice N5 0 o5] 52))
  replace hX4 := hX4.below ((Below.refl _ _).alloc (Nat.le_refl _) (.cells #[.slice N1 l1.length o1, .slice N2 l2.length o2, .slice N3 0 o3, .slice N4 0 o4, .slice N5 0 o5] 52))
  replace hV1 := hV1.below ((Below.refl _ _).alloc (Nat.le_refl _) (.cells #[.slice N1 l1.length o1, .slice N2 l2.length o2, .slice N3 0 o3, .slice N4 0 o4, .slice N5 0 o5] 52))
  replace hV2 := hV2.below ((Below.refl _ _).alloc (Nat.le_refl _) (.cells #[.slice N1 l1.length o1, .slice N2 l2.length o2, .slice N3 0 o3, .slice N4 0 o4, .slice N5 0 o5] 52))
  replace hG1 := hG1.below ((Below.refl _ _).alloc (Nat.le_refl _) (.cells #[.slice N1 l1.length o1, .slice N2 l2.length o2, .slice N3 0 o3, .slice N4 0 o4, .slice N5 0 o5] 52))
  replace hG2 := hG2.below ((Below.refl _ _).alloc (Nat.le_refl _) (.cells #[.slice N1 l1.length o1, .slice N2 l2.length o2, .slice N3 0 o3, .slice N4 0 o4, .slice N5 0 o5] 52))
  replace hLL := hLL.below ((Below.refl _ _).alloc (Nat.le_refl _) (.cells #[.slice N1 l1.length o1, .slice N2 l2.length o2, .slice N3 0 o3, .slice N4 0 o4, .slice N5 0 o5] 52))
  replace hs := hs.below ((Below.refl _ _).alloc (Nat.le_refl _) (.cells #[.slice N1 l1.length o1, .slice N2 l2.length o2, .slice N3 0 o3, .slice N4 0 o4, .slice N5 0 o5] 52))
  replace hX5 := hX5.below ((Below.refl _ _).alloc (Nat.le_refl _) (.cells #[.slice N1 l1.length o1, .slice N2 l2.length o2, .slice N3 0 o3, .slice N4 0 o4, .slice N5 0 o5] 52))
  replace hz := hz.below ((Below.refl _ _).alloc (Nat.le_refl _) (.cells #[.slice N1 l1.length o1, .slice N2 l2.length o2, .slice N3 0 o3, .slice N4 0 o4, .slice N5 0 o5] 52))
  replace hB := hB.alloc hB.size (.cells #[.slice N1 l1.length o1, .slice N2 l2.length o2, .slice N3 0 o3, .slice N4 0 o4, .slice N5 0 o5] 52)
  have hX6 : cells5 w12.heap.size (.slice N1 l1.length o1) (.slice N2 l2.length o2) (.slice N3 0 o3) (.slice N4 0 o4) (.slice N5 0 o5) (w12.alloc (.cells #[.slice N1 l1.length o1, .slice N2 l2.length o2, .slice N3 0 o3, .slice N4 0 o4, .slice N5 0 o5] 52)) := cells5.new w12 (.slice N1 l1.length o1) (.slice N2 l2.length o2) (.slice N3 0 o3) (.slice N4 0 o4) (.slice N5 0 o5) 52 _ rfl
  clear cSi cSs
  go_upto_region 15 with fail
  go_cut [194] from 51 (fun v wx => v = .bool false ∧ Below w.heap.size w wx ∧ EA wx A1 c1 f A2 c2 n A3 c3 s A4 c4 r A5 c5 h ∧ cells5 w1.heap.size (.slice A1 f.length c1) (.slice A2 n.length c2) (.slice A3 s.length c3) (.slice A4 r.length c4) (.slice A5 h.length c5) wx ∧ EA wx D1 d1 f2 D2 d2 n2 D3 d3 s2 D4 d4 r2 D5 d5 h2 ∧ cells5 w2.heap.size (.slice D1 f2.length d1) (.slice D2 n2.length d2) (.slice D3 s2.length d3) (.slice D4 r2.length d4) (.slice D5 h2.length d5) wx ∧ ER wx E1 f2 E2 n2 E3 s2 E4 r2 E5 h2 ∧ cells5 w3.heap.size (.slice E1 f2.length e1) (.slice E2 n2.length e2) (.slice E3 s2.length e3) (.slice E4 r2.length e4) (.slice E5 h2.length e5) wx ∧ EA wx F1 j1 f3 F2 j2 n3 F3 j3 s3 F4 j4 r3 F5 j5 h3 ∧ cells5 w4.heap.size (.slice F1 f3.length j1) (.slice F2 n3.length j2) (.slice F3 s3.length j3) (.slice F4 r3.length j4) (.slice F5 h3.length j5) wx ∧ AM wx P2 V ∧ SM wx Q2 G ∧ AM wx A6 l ∧ EA wx M1 m1 l1 M2 m2 l2 M3 m3 ([] : List Msg) M4 m4 ([] : List Msg) M5 m5 ([] : List Msg) ∧ cells5 w11.heap.size (.slice M1 l1.length m1) (.slice M2 l2.length m2) (.slice M3 0 m3) (.slice M4 0 m4) (.slice M5 0 m5) wx)
  case first =>
    as_aux_lemma =>
      have s1 := neqB sev
      cases ok with
      | false =>
        have s2_ := neqB one
        obtain ⟨x0, x1, x2, x3, x4⟩ := id hX1
        obtain ⟨y0, y1, y2, y3, y4⟩ := id hX2
        go_wp2_with fail
        refine (qEnds_any D1 d1 D2 d2 D3 d3 D4 d4 D5 d5 E1 e1 E2 e2 E3 e3 E4 e4 E5 e5 f2 n2 s2 r2 h2 _ L2e.f.1 L2e.n.1 L2e.s.1 L2e.r.1 L2e.h.1 ht.er.p1 ht.er.p2 ht.er.p3 ht.er.p4 ht.er.p5 hu.p1 hu.p2 hu.p3 hu.p4 hu.p5).mono ?_
        rintro e v1 ⟨rfl, hb⟩
        replace hq := hq.below hb
        replace hX0 := hX0.below hb
        replace ht := ht.below hb
        replace hX1 := hX1.below hb
        replace hu := hu.below hb
        replace hX2 := hX2.below hb
        replace ha := ha.below hb
        replace hX3 := hX3.below hb
        replace hy := hy.below hb
        replace hX4 := hX4.below hb
        replace hV1 := hV1.below hb
        replace hV2 := hV2.below hb
        replace hG1 := hG1.below hb
        replace hG2 := hG2.below hb
        replace hLL := hLL.below hb
        replace hs := hs.below hb
        replace hX5 := hX5.below hb
        replace hz := hz.below hb
        replace hX6 := hX6.below hb
        replace hB := Below.on' hB hb
        clear hb
        clear x0 x1 x2 x3 x4
        clear y0 y1 y2 y3 y4
        obtain ⟨x0, x1, x2, x3, x4⟩ := id hX3
        obtain ⟨y0, y1, y2, y3, y4⟩ := id hX4
        go_wp2_with fail
        refine (qEnds_any F1 j1 F2 j2 F3 j3 F4 j4 F5 j5 H1 k1 H2 k2 H3 k3 H4 k4 H5 k5 f3 n3 s3 r3 h3 _ L3e.f.1 L3e.n.1 L3e.s.1 L3e.r.1 L3e.h.1 ha.er.p1 ha.er.p2 ha.er.p3 ha.er.p4 ha.er.p5 hy.p1 hy.p2 hy.p3 hy.p4 hy.p5).mono ?_
        rintro e v2 ⟨rfl, hb⟩
        replace hq := hq.below hb
        replace hX0 := hX0.below hb
        replace ht := ht.below hb
        replace hX1 := hX1.below hb
        replace hu := hu.below hb
        replace hX2 := hX2.below hb
        replace ha := ha.below hb
        replace hX3 := hX3.below hb
        replace hy := hy.below hb
        replace hX4 := hX4.below hb
        replace hV1 := hV1.below hb
        replace hV2 := hV2.below hb
        replace hG1 := hG1.below hb
        replace hG2 := hG2.below hb
        replace hLL := hLL.below hb
        replace hs := hs.below hb
        replace hX5 := hX5.below hb
        replace hz := hz.below hb
        replace hX6 := hX6.below hb
        replace hB := Below.on' hB hb
        clear hb
        clear x0 x1 x2 x3 x4
        clear y0 y1 y2 y3 y4
        clear hX4 hy
        go_wp2_with fail
        refine (qFleet_any P1 P2 p1 p2 _ _ _ _ V _ hVl hV1.p hV2.p).mono ?_
        rintro e v3 ⟨rfl, hb⟩
        replace hq := hq.below hb
        replace hX0 := hX0.below hb
        replace ht := ht.below hb
        replace hX1 := hX1.below hb
        replace hu := hu.below hb
        replace hX2 := hX2.below hb
        replace ha := ha.below hb
        replace hX3 := hX3.below hb
        replace hV1 := hV1.below hb
        replace hV2 := hV2.below hb
        replace hG1 := hG1.below hb
        replace hG2 := hG2.below hb
        replace hLL := hLL.below hb
        replace hs := hs.below hb
        replace hX5 := hX5.below hb
        replace hz := hz.below hb
        replace hX6 := hX6.below hb
        replace hB := Below.on' hB hb
        clear hb
        clear hV1
        go_wp2_with fail
        refine (qTexts_any Q1 Q2 g1 g2 _ _ _ _ G _ hGl hG1.p hG2.p).mono ?_
        rintro e v4 ⟨rfl, hb⟩
        replace hq := hq.below hb
        replace hX0 := hX0.below hb
        replace ht := ht.below hb
        replace hX1 := hX1.below hb
        replace hu := hu.below hb
        replace hX2 := hX2.below hb
        replace ha := ha.below hb
        replace hX3 := hX3.below hb
        replace hV2 := hV2.below hb
        replace hG1 := hG1.below hb
        replace hG2 := hG2.below hb
        replace hLL := hLL.below hb
        replace hs := hs.below hb
        replace hX5 := hX5.below hb
        replace hz := hz.below hb
        replace hX6 := hX6.below hb
        replace hB := Below.on' hB hb
        clear hb
        clear hG1
        have cQ : ∀ W, ER W M1 l1 M2 l2 M3 ([] : List Msg) M4 ([] : List Msg) M5 ([] : List Msg) → ER W N1 l1 N2 l2 N3 ([] : List Msg) N4 ([] : List Msg) N5 ([] : List Msg) → Calls Tryz.prog 41 #[.agg #[.slice M1 l1.length m1, .slice M2 l2.length m2, .slice M3 0 m3, .slice M4 0 m4, .slice M5 0 m5], .agg #[.slice N1 l1.length o1, .slice N2 l2.length o2, .slice N3 0 o3, .slice N4 0 o4, .slice N5 0 o5]] W (RV W (.bool true)) := fun W p q => qEnds_any M1 m1 M2 m2 M3 m3 M4 m4 M5 m5 N1 o1 N2 o2 N3 o3 N4 o4 N5 o5 l1 l2 ([] : List Msg) ([] : List Msg) ([] : List Msg) W L4e.f.1 L4e.n.1 L4e.s.1 L4e.r.1 L4e.h.1 p.p1 p.p2 p.p3 p.p4 p.p5 q.p1 q.p2 q.p3 q.p4 q.p5
        obtain ⟨x0, x1, x2, x3, x4⟩ := id hX5
        obtain ⟨y0, y1, y2, y3, y4⟩ := id hX6
        go_wp2_with fail
        refine (cQ _ hs.er hz.er).mono ?_
        rintro e v5 ⟨rfl, hb⟩
        replace hq := hq.below hb
        replace hX0 := hX0.below hb
        replace ht := ht.below hb
        replace hX1 := hX1.below hb
        replace hu := hu.below hb
        replace hX2 := hX2.below hb
        replace ha := ha.below hb
        replace hX3 := hX3.below hb
        replace hV2 := hV2.below hb
        replace hG2 := hG2.below hb
        replace hLL := hLL.below hb
        replace hs := hs.below hb
        replace hX5 := hX5.below hb
        replace hz := hz.below hb
        replace hX6 := hX6.below hb
        replace hB := Below.on' hB hb
        clear hb
        clear x0 x1 x2 x3 x4
        clear y0 y1 y2 y3 y4
        clear hX6 hz
        obtain ⟨x0, x1, x2, x3, x4⟩ := id hX0
        go_wp2_with fail
        refine (cE _ hq (hS.below hB)).mono ?_
        rintro e v6 ⟨rfl, hb⟩
        replace hq := hq.below hb
        replace hX0 := hX0.below hb
        replace ht := ht.below hb
        replace hX1 := hX1.below hb
        replace hu := hu.below hb
        replace hX2 := hX2.below hb
        replace ha := ha.below hb
        replace hX3 := hX3.below hb
        replace hV2 := hV2.below hb
        replace hG2 := hG2.below hb
        replace hLL := hLL.below hb
        replace hs := hs.below hb
        replace hX5 := hX5.below hb
        replace hB := Below.on' hB hb
        clear hb
        clear x0 x1 x2 x3 x4
        go_wp2_with fail
        go_meet
        exact ⟨rfl, hB, hq, hX0, ht, hX1, hu, hX2, ha, hX3, hV2, hG2, hLL, hs, hX5⟩
      | true =>
        obtain rfl : one = true := hok.out rfl
        obtain ⟨x0, x1, x2, x3, x4⟩ := id hX1
        obtain ⟨y0, y1, y2, y3, y4⟩ := id hX2
        go_wp2_with fail
        refine (qEnds_any D1 d1 D2 d2 D3 d3 D4 d4 D5 d5 E1 e1 E2 e2 E3 e3 E4 e4 E5 e5 f2 n2 s2 r2 h2 _ L2e.f.1 L2e.n.1 L2e.s.1 L2e.r.1 L2e.h.1 ht.er.p1 ht.er.p2 ht.er.p3 ht.er.p4 ht.er.p5 hu.p1 hu.p2 hu.p3 hu.p4 hu.p5).mono ?_
        rintro e v1 ⟨rfl, hb⟩
        replace hq := hq.below hb
        replace hX0 := hX0.below hb
        replace ht := ht.below hb
        replace hX1 := hX1.below hb
        replace hu := hu.below hb
        replace hX2 := hX2.below hb
        replace ha := ha.below hb
        replace hX3 := hX3.below hb
        replace hy := hy.below hb
        replace hX4 := hX4.below hb
        replace hV1 := hV1.below hb
        replace hV2 := hV2.below hb
        replace hG1 := hG1.below hb
        replace hG2 := hG2.below hb
        replace hLL := hLL.below hb
        replace hs := hs.below hb
        replace hX5 := hX5.below hb
        replace hz := hz.below hb
        replace hX6 := hX6.below hb
        replace hB := Below.on' hB hb
        clear hb
        clear x0 x1 x2 x3 x4
        clear y0 y1 y2 y3 y4
        obtain ⟨x0, x1, x2, x3, x4⟩ := id hX3
        obtain ⟨y0, y1, y2, y3, y4⟩ := id hX4
        go_wp2_with fail
        refine (qEnds_any F1 j1 F2 j2 F3 j3 F4 j4 F5 j5 H1 k1 H2 k2 H3 k3 H4 k4 H5 k5 f3 n3 s3 r3 h3 _ L3e.f.1 L3e.n.1 L3e.s.1 L3e.r.1 L3e.h.1 ha.er.p1 ha.er.p2 ha.er.p3 ha.er.p4 ha.er.p5 hy.p1 hy.p2 hy.p3 hy.p4 hy.p5).mono ?_
        rintro e v2 ⟨rfl, hb⟩
        replace hq := hq.below hb
        replace hX0 := hX0.below hb
        replace ht := ht.below hb
        replace hX1 := hX1.below hb
        replace hu := hu.below hb
        replace hX2 := hX2.below hb
        replace ha := ha.below hb
        replace hX3 := hX3.below hb
        replace hy := hy.below hb
        replace hX4 := hX4.below hb
        replace hV1 := hV1.below hb
        replace hV2 := hV2.below hb
        replace hG1 := hG1.below hb
        replace hG2 := hG2.below hb
        replace hLL := hLL.below hb
        replace hs := hs.below hb
        replace hX5 := hX5.below hb
        replace hz := hz.below hb
        replace hX6 := hX6.below hb
        replace hB := Below.on' hB hb
        clear hb
        clear x0 x1 x2 x3 x4
        clear y0 y1 y2 y3 y4
        clear hX4 hy
        go_wp2_with fail
        refine (qFleet_any P1 P2 p1 p2 _ _ _ _ V _ hVl hV1.p hV2.p).mono ?_
        rintro e v3 ⟨rfl, hb⟩
        replace hq := hq.below hb
        replace hX0 := hX0.below hb
        replace ht := ht.below hb
        replace hX1 := hX1.below hb
        replace hu := hu.below hb
        replace hX2 := hX2.below hb
        replace ha := ha.below hb
        replace hX3 := hX3.below hb
        replace hV1 := hV1.below hb
        replace hV2 := hV2.below hb
        replace hG1 := hG1.below hb
        replace hG2 := hG2.below hb
        replace hLL := hLL.below hb
        replace hs := hs.below hb
        replace hX5 := hX5.below hb
        replace hz := hz.below hb
        replace hX6 := hX6.below hb
        replace hB := Below.on' hB hb
        clear hb
        clear hV1
        go_wp2_with fail
        refine (qTexts_any Q1 Q2 g1 g2 _ _ _ _ G _ hGl hG1.p hG2.p).mono ?_
        rintro e v4 ⟨rfl, hb⟩
        replace hq := hq.below hb
        replace hX0 := hX0.below hb
        replace ht := ht.below hb
        replace hX1 := hX1.below hb
        replace hu := hu.below hb
        replace hX2 := hX2.below hb
        replace ha := ha.below hb
        replace hX3 := hX3.below hb
        replace hV2 := hV2.below hb
        replace hG1 := hG1.below hb
        replace hG2 := hG2.below hb
        replace hLL := hLL.below hb
        replace hs := hs.below hb
        replace hX5 := hX5.below hb
        replace hz := hz.below hb
        replace hX6 := hX6.below hb
        replace hB := Below.on' hB hb
        clear hb
        clear hG1
        have cQ : ∀ W, ER W M1 l1 M2 l2 M3 ([] : List Msg) M4 ([] : List Msg) M5 ([] : List Msg) → ER W N1 l1 N2 l2 N3 ([] : List Msg) N4 ([] : List Msg) N5 ([] : List Msg) → Calls Tryz.prog 41 #[.agg #[.slice M1 l1.length m1, .slice M2 l2.length m2, .slice M3 0 m3, .slice M4 0 m4, .slice M5 0 m5], .agg #[.slice N1 l1.length o1, .slice N2 l2.length o2, .slice N3 0 o3, .slice N4 0 o4, .slice N5 0 o5]] W (RV W (.bool true)) := fun W p q => qEnds_any M1 m1 M2 m2 M3 m3 M4 m4 M5 m5 N1 o1 N2 o2 N3 o3 N4 o4 N5 o5 l1 l2 ([] : List Msg) ([] : List Msg) ([] : List Msg) W L4e.f.1 L4e.n.1 L4e.s.1 L4e.r.1 L4e.h.1 p.p1 p.p2 p.p3 p.p4 p.p5 q.p1 q.p2 q.p3 q.p4 q.p5
        obtain ⟨x0, x1, x2, x3, x4⟩ := id hX5
        obtain ⟨y0, y1, y2, y3, y4⟩ := id hX6
        go_wp2_with fail
        refine (cQ _ hs.er hz.er).mono ?_
        rintro e v5 ⟨rfl, hb⟩
        replace hq := hq.below hb
        replace hX0 := hX0.below hb
        replace ht := ht.below hb
        replace hX1 := hX1.below hb
        replace hu := hu.below hb
        replace hX2 := hX2.below hb
        replace ha := ha.below hb
        replace hX3 := hX3.below hb
        replace hV2 := hV2.below hb
        replace hG2 := hG2.below hb
        replace hLL := hLL.below hb
        replace hs := hs.below hb
        replace hX5 := hX5.below hb
        replace hz := hz.below hb
        replace hX6 := hX6.below hb
        replace hB := Below.on' hB hb
        clear hb
        clear x0 x1 x2 x3 x4
        clear y0 y1 y2 y3 y4
        clear hX6 hz
        obtain ⟨x0, x1, x2, x3, x4⟩ := id hX0
        go_wp2_with fail
        refine (cE _ hq (hS.below hB)).mono ?_
        rintro e v6 ⟨rfl, hb⟩
        replace hq := hq.below hb
        replace hX0 := hX0.below hb
        replace ht := ht.below hb
        replace hX1 := hX1.below hb
        replace hu := hu.below hb
        replace hX2 := hX2.below hb
        replace ha := ha.below hb
        replace hX3 := hX3.below hb
        replace hV2 := hV2.below hb
        replace hG2 := hG2.below hb
        replace hLL := hLL.below hb
        replace hs := hs.below hb
        replace hX5 := hX5.below hb
        replace hB := Below.on' hB hb
        clear hb
        clear x0 x1 x2 x3 x4
        go_wp2_with fail
        go_meet
        exact ⟨rfl, hB, hq, hX0, ht, hX1, hu, hX2, ha, hX3, hV2, hG2, hLL, hs, hX5⟩
  case rest =>
    as_aux_lemma =>
      obtain ⟨rfl, hI⟩ := hcut
      clear hB hq hX0 ht hX1 hu hX2 ha hX3 hy hX4 hV1 hV2 hG1 hG2 hLL hs hX5 hz hX6 cE
      go_upto_if 195 with fail
      go_cut [4] from 389 (fun v wx => v = .bool false ∧ Below w.heap.size w wx ∧ EA wx A1 c1 f A2 c2 n A3 c3 s A4 c4 r A5 c5 h ∧ cells5 w1.heap.size (.slice A1 f.length c1) (.slice A2 n.length c2) (.slice A3 s.length c3) (.slice A4 r.length c4) (.slice A5 h.length c5) wx ∧ EA wx F1 j1 f3 F2 j2 n3 F3 j3 s3 F4 j4 r3 F5 j5 h3 ∧ cells5 w4.heap.size (.slice F1 f3.length j1) (.slice F2 n3.length j2) (.slice F3 s3.length j3) (.slice F4 r3.length j4) (.slice F5 h3.length j5) wx ∧ SM wx Q2 G ∧ AM wx A6 l ∧ EA wx M1 m1 l1 M2 m2 l2 M3 m3 ([] : List Msg) M4 m4 ([] : List Msg) M5 m5 ([] : List Msg) ∧ cells5 w11.heap.size (.slice M1 l1.length m1) (.slice M2 l2.length m2) (.slice M3 0 m3) (.slice M4 0 m4) (.slice M5 0 m5) wx)
      case first =>
        as_aux_lemma =>
          obtain ⟨hB, hq, hX0, ht, hX1, hu, hX2, ha, hX3, hV2, hG2, hLL, hs, hX5⟩ := hI
          cases ok with
          | false =>
            go_wp2_with fail
            go_meet
            exact ⟨rfl, hB, hq, hX0, ha, hX3, hG2, hLL, hs, hX5⟩
          | true =>
            obtain rfl : one = true := hok.out rfl
            obtain ⟨k1, k2, ⟨b, k3, k4, k5, k6⟩, k7, ⟨m, k8, k9⟩, k10⟩ := tel_facts hT.out rfl
            rw [hV.out] at k7
            have hw : IntKind.i64.wrap (b + 1) = b + 1 := IntWalk.i64_in _ (by omega)
            have cB := StateBody_impl_yes v k2
            have cLt : ∀ W, EA W D1 d1 f2 D2 d2 n2 D3 d3 s2 D4 d4 r2 D5 d5 h2 → Said W → Calls Tryz.prog 46 #[.agg #[.slice D1 f2.length d1, .slice D2 n2.length d2, .slice D3 s2.length d3, .slice D4 r2.length d4, .slice D5 h2.length d5], .string nm] W (RV W (.tuple #[.int .i64 (b + 1), .bool true])) := fun W q hS => by have := BehindBy_impl D1 d1 f2 D2 d2 n2 D3 d3 s2 D4 d4 r2 D5 d5 h2 nm W q hnm hS; rw [k4] at this; exact this
            have cLs : ∀ W, EA W A1 c1 f A2 c2 n A3 c3 s A4 c4 r A5 c5 h → Calls Tryz.prog 47 #[.agg #[.slice A1 f.length c1, .slice A2 n.length c2, .slice A3 s.length c3, .slice A4 r.length c4, .slice A5 h.length c5], .string nm] W (RV W (.tuple #[.int .i64 b, .bool true])) := fun W q => by have := BehindBy_spec A1 c1 f A2 c2 n A3 c3 s A4 c4 r A5 c5 h nm W q hnm; rw [k3] at this; exact this
            have cV : ∀ W, EA W D1 d1 f2 D2 d2 n2 D3 d3 s2 D4 d4 r2 D5 d5 h2 → Said W → Calls Tryz.prog 34 #[.agg #[.slice D1 f2.length d1, .slice D2 n2.length d2, .slice D3 s2.length d3, .slice D4 r2.length d4, .slice D5 h2.length d5]] W (RS2 App.cells 5 W V true) := fun W q hS => by have := RoomView_impl D1 d1 f2 D2 d2 n2 D3 d3 s2 D4 d4 r2 D5 d5 h2 W q hS; rw [k7] at this; exact this
            have cE : ∀ W, EA W D1 d1 f2 D2 d2 n2 D3 d3 s2 D4 d4 r2 D5 d5 h2 → Said W → Calls Tryz.prog 44 #[.agg #[.slice D1 f2.length d1, .slice D2 n2.length d2, .slice D3 s2.length d3, .slice D4 r2.length d4, .slice D5 h2.length d5]] W (RV W (.bool true)) := fun W q hS => by have := AreEnds_impl D1 d1 f2 D2 d2 n2 D3 d3 s2 D4 d4 r2 D5 d5 h2 W q.lf q.mf q.Sf q.ln q.mn q.Sn q.ls q.ms q.Ss q.ks q.lr q.mr q.Sr q.kr q.lh q.mh q.Sh q.kh hS; rw [k10] at this; exact this
            have hln : s2.length = s.length + 1 := by rw [k8]; simp
            have hgt : s2[s.length]? = some m := by rw [k8]; simp
            have hsl := hq.ls
            rw [← k9] at cB
            replace hln := Lib.hid hln
            clear k1 k2 k3 k4 k7 k8 k9 k10
            go_wp2_with fail
            refine (cB _).mono ?_
            rintro e w51 ⟨rfl, hb⟩
            replace hq := hq.below hb
            replace hX0 := hX0.below hb
            replace ht := ht.below hb
            replace hX1 := hX1.below hb
            replace hu := hu.below hb
            replace hX2 := hX2.below hb
            replace ha := ha.below hb
            replace hX3 := hX3.below hb
            replace hV2 := hV2.below hb
            replace hG2 := hG2.below hb
            replace hLL := hLL.below hb
            replace hs := hs.below hb
            replace hX5 := hX5.below hb
            replace hB := Below.on' hB hb
            clear hb
            obtain ⟨x0, x1, x2, x3, x4⟩ := id hX1
            go_wp2_with fail
            refine (cLt _ ht (hS.below hB)).mono ?_
            rintro e w52 ⟨rfl, hb⟩
            replace hq := hq.below hb
            replace hX0 := hX0.below hb
            replace ht := ht.below hb
            replace hX1 := hX1.below hb
            replace hu := hu.below hb
            replace hX2 := hX2.below hb
            replace ha := ha.below hb
            replace hX3 := hX3.below hb
            replace hV2 := hV2.below hb
            replace hG2 := hG2.below hb
            replace hLL := hLL.below hb
            replace hs := hs.below hb
            replace hX5 := hX5.below hb
            replace hB := Below.on' hB hb
            clear hb
            clear x0 x1 x2 x3 x4
            obtain ⟨x0, x1, x2, x3, x4⟩ := id hX0
            go_wp2_with fail
            refine (cLs _ hq).mono ?_
            rintro e w53 ⟨rfl, hb⟩
            replace hq := hq.below hb
            replace hX0 := hX0.below hb
            replace ht := ht.below hb
            replace hX1 := hX1.below hb
            replace hu := hu.below hb
            replace hX2 := hX2.below hb
            replace ha := ha.below hb
            replace hX3 := hX3.below hb
            replace hV2 := hV2.below hb
            replace hG2 := hG2.below hb
            replace hLL := hLL.below hb
            replace hs := hs.below hb
            replace hX5 := hX5.below hb
            replace hB := Below.on' hB hb
            clear hb
            clear x0 x1 x2 x3 x4
            obtain ⟨x0, x1, x2, x3, x4⟩ := id hX1
            go_wp2_with fail
            refine (cV _ ht (hS.below hB)).mono ?_
            rintro e w54 ⟨P3, p3, rfl, hSl, _, hb⟩
            replace hq := hq.below hb
            replace hX0 := hX0.below hb
            replace ht := ht.below hb
            replace hX1 := hX1.below hb
            replace hu := hu.below hb
            replace hX2 := hX2.below hb
            replace ha := ha.below hb
            replace hX3 := hX3.below hb
            replace hV2 := hV2.below hb
            replace hG2 := hG2.below hb
            replace hLL := hLL.below hb
            replace hs := hs.below hb
            replace hX5 := hX5.below hb
            replace hB := Below.on' hB hb
            have hV3 := AM.mk hSl.all
            clear hSl
            clear hb
            clear x0 x1 x2 x3 x4
            clear cB cLt cLs cV
            have hne : (b + 1 != b + 1) = false := by simp
            have hl0 : (((s.length : Int) + 1) == 0) = false := by simp; omega
            rw [hln.out] at hX2
            have hmb : (m.b.toList != m.b.toList) = false := by simp
            clear k5 k6
            go_wp2_with fail
            refine (qFleet_any P3 P2 p3 p2 _ _ _ _ V _ hVl hV3.p hV2.p).mono ?_
            rintro e v3 ⟨rfl, hb⟩
            replace hq := hq.below hb
            replace hX0 := hX0.below hb
            replace ht := ht.below hb
            replace hX1 := hX1.below hb
            replace hu := hu.below hb
            replace hX2 := hX2.below hb
            replace ha := ha.below hb
            replace hX3 := hX3.below hb
            replace hV2 := hV2.below hb
            replace hG2 := hG2.below hb
            replace hLL := hLL.below hb
            replace hs := hs.below hb
            replace hX5 := hX5.below hb
            replace hV3 := hV3.below hb
            replace hB := Below.on' hB hb
            clear hb
            obtain ⟨bb, off, rfl, _, _, _, hf_⟩ := hu.p3.at_ hgt
            have d2 := (hf_ 2 _ rfl).1
            clear hf_
            obtain ⟨y0, y1, y2, y3, y4⟩ := id hX2
            obtain ⟨x0, x1, x2, x3, x4⟩ := id hX1
            go_wp2_with fail
            refine (cE _ ht (hS.below hB)).mono ?_
            rintro e v4 ⟨rfl, hb⟩
            replace hq := hq.below hb
            replace hX0 := hX0.below hb
            replace ht := ht.below hb
            replace hX1 := hX1.below hb
            replace hX2 := hX2.below hb
            replace ha := ha.below hb
            replace hX3 := hX3.below hb
            replace hG2 := hG2.below hb
            replace hLL := hLL.below hb
            replace hs := hs.below hb
            replace hX5 := hX5.below hb
            replace hB := Below.on' hB hb
            clear hb
            clear x0 x1 x2 x3 x4
            clear y0 y1 y2 y3 y4
            go_wp2_with fail
            go_meet
            exact ⟨rfl, hB, hq, hX0, ha, hX3, hG2, hLL, hs, hX5⟩
      case rest =>
        as_aux_lemma =>
          obtain ⟨rfl, hI⟩ := hcut
          clear hT hok L2e
          go_upto_if 271 with fail
          go_cut [4] from 389 (fun v wx => v = .bool false ∧ Below w.heap.size w wx ∧ AM wx A6 l ∧ EA wx M1 m1 l1 M2 m2 l2 M3 m3 ([] : List Msg) M4 m4 ([] : List Msg) M5 m5 ([] : List Msg) ∧ cells5 w11.heap.size (.slice M1 l1.length m1) (.slice M2 l2.length m2) (.slice M3 0 m3) (.slice M4 0 m4) (.slice M5 0 m5) wx)
          case first =>
            as_aux_lemma =>
              obtain ⟨hB, hq, hX0, ha, hX3, hG2, hLL, hs, hX5⟩ := hI
              cases one with
              | false =>
                go_wp2_with fail
                go_meet
                exact ⟨rfl, hB, hLL, hs, hX5⟩
              | true =>
                obtain ⟨k1, ⟨G', k2, k3⟩, k4, k5⟩ := all_facts hR.out hG.out rfl
                have cV : ∀ W, EA W F1 j1 f3 F2 j2 n3 F3 j3 s3 F4 j4 r3 F5 j5 h3 → Said W → Calls Tryz.prog 34 #[.agg #[.slice F1 f3.length j1, .slice F2 n3.length j2, .slice F3 s3.length j3, .slice F4 r3.length j4, .slice F5 h3.length j5]] W (RS2 App.cells 5 W n true) := fun W q hS => by have := RoomView_impl F1 j1 f3 F2 j2 n3 F3 j3 s3 F4 j4 r3 F5 j5 h3 W q hS; rw [k1] at this; exact this
                have cG : ∀ W, EA W F1 j1 f3 F2 j2 n3 F3 j3 s3 F4 j4 r3 F5 j5 h3 → Said W → Calls Tryz.prog 36 #[.agg #[.slice F1 f3.length j1, .slice F2 n3.length j2, .slice F3 s3.length j3, .slice F4 r3.length j4, .slice F5 h3.length j5]] W (RS2 Strs.cells 1 W G' true) := fun W q hS => by have := AgreeOn_impl F1 j1 f3 F2 j2 n3 F3 j3 s3 F4 j4 r3 F5 j5 h3 W q hS; rw [k2] at this; exact this
                have hnl := hq.ln
                have hne : ((G'.length : Int) != (n.length : Int)) = false := by simp [k3]
                have hle : ¬ ((n.length : Int) < (G.length : Int)) := by omega
                replace k5 := Lib.hid k5
                clear k1 k2 k3 k4
                obtain ⟨x0, x1, x2, x3, x4⟩ := id hX3
                go_wp2_with fail
                refine (cV _ ha (hS.below hB)).mono ?_
                rintro e w61 ⟨P3, p3, rfl, hSl, _, hb⟩
                replace hq := hq.below hb
                replace hX0 := hX0.below hb
                replace ha := ha.below hb
                replace hX3 := hX3.below hb
                replace hG2 := hG2.below hb
                replace hLL := hLL.below hb
                replace hs := hs.below hb
                replace hX5 := hX5.below hb
                replace hB := Below.on' hB hb
                have hV3 := AM.mk hSl.all
                clear hSl
                clear hb
                clear x0 x1 x2 x3 x4
                obtain ⟨x0, x1, x2, x3, x4⟩ := id hX3
                go_wp2_with fail
                refine (cG _ ha (hS.below hB)).mono ?_
                rintro e w62 ⟨Q3, g3, rfl, _, _, hb⟩
                replace hq := hq.below hb
                replace hX0 := hX0.below hb
                replace ha := ha.below hb
                replace hX3 := hX3.below hb
                replace hG2 := hG2.below hb
                replace hLL := hLL.below hb
                replace hs := hs.below hb
                replace hX5 := hX5.below hb
                replace hV3 := hV3.below hb
                replace hB := Below.on' hB hb
                clear hb
                clear x0 x1 x2 x3 x4
                clear cV cG
                obtain ⟨x0, x1, x2, x3, x4⟩ := id hX0
                go_wp2_with fail
                refine (qFleet_any P3 A2 p3 c2 _ _ _ _ n _ hnl hV3.p hq.Sn).mono ?_
                rintro e v3 ⟨rfl, hb⟩
                replace hq := hq.below hb
                replace hX0 := hX0.below hb
                replace ha := ha.below hb
                replace hX3 := hX3.below hb
                replace hG2 := hG2.below hb
                replace hLL := hLL.below hb
                replace hs := hs.below hb
                replace hX5 := hX5.below hb
                replace hV3 := hV3.below hb
                replace hB := Below.on' hB hb
                clear hb
                clear x0 x1 x2 x3 x4
                clear hV3
                obtain ⟨x0, x1, x2, x3, x4⟩ := id hX0
                go_wp2_with fail
                clear x0 x1 x2 x3 x4 hne hle
                rename ¬ n.length < G.length => hle2
                clear hle2
                go_loopw [4, 314] (fun v_ i_ wr => ∃ t : Nat, v_ = .bool false ∧ t ≤ n.length ∧ i_ = .int .i64 t ∧ Below w.heap.size w wr ∧ EA wr A1 c1 f A2 c2 n A3 c3 s A4 c4 r A5 c5 h ∧ cells5 w1.heap.size (.slice A1 f.length c1) (.slice A2 n.length c2) (.slice A3 s.length c3) (.slice A4 r.length c4) (.slice A5 h.length c5) wr ∧ EA wr F1 j1 f3 F2 j2 n3 F3 j3 s3 F4 j4 r3 F5 j5 h3 ∧ cells5 w4.heap.size (.slice F1 f3.length j1) (.slice F2 n3.length j2) (.slice F3 s3.length j3) (.slice F4 r3.length j4) (.slice F5 h3.length j5) wr ∧ SM wr Q2 G ∧ AM wr A6 l ∧ EA wr M1 m1 l1 M2 m2 l2 M3 m3 ([] : List Msg) M4 m4 ([] : List Msg) M5 m5 ([] : List Msg) ∧ cells5 w11.heap.size (.slice M1 l1.length m1) (.slice M2 l2.length m2) (.slice M3 0 m3) (.slice M4 0 m4) (.slice M5 0 m5) wr) (fun _ i_ _ => n.length - (intOf i_).toNat)
                case atStart => exact ⟨0, rfl, Nat.zero_le _, rfl, hB, hq, hX0, ha, hX3, hG2, hLL, hs, hX5⟩
                case round =>
                  clear hB hq hX0 ha hX3 hG2 hLL hs hX5
                  obtain ⟨t, rfl, ht, rfl, hB, hq, hX0, ha, hX3, hG2, hLL, hs, hX5⟩ := hrel
                  by_cases hlt : t < n.length
                  ·
                    have hlt' : (t : Int) < n.length := by omega
                    obtain ⟨x, hx1, hx2⟩ := get_lt hlt
                    obtain ⟨b1, b, b2, b3, b4⟩ := k5.out x hx2
                    have hxs := hq.mn x hx2
                    obtain ⟨bb, off, rfl, _, _, _, hf_⟩ := hq.Sn.at_ hx1
                    have d0 : wr.cell? ⟨bb, off + t * 5, none⟩ = some (.string x.nm) := (hf_ 0 _ rfl).1
                    have d1 : wr.cell? ⟨bb, off + t * 5 + 1, none⟩ = some (.int .i64 x.kd) := (hf_ 1 _ rfl).1
                    have d2 : wr.cell? ⟨bb, off + t * 5 + 2, none⟩ = some (.int .i64 x.nd) := (hf_ 2 _ rfl).1
                    have d3 : wr.cell? ⟨bb, off + t * 5 + 3, none⟩ = some (.int .i64 x.cw) := (hf_ 3 _ rfl).1
                    have d4 : wr.cell? ⟨bb, off + t * 5 + 4, none⟩ = some (.int .i64 x.st) := (hf_ 4 _ rfl).1
                    clear hf_
                    have cLa : ∀ W, EA W F1 j1 f3 F2 j2 n3 F3 j3 s3 F4 j4 r3 F5 j5 h3 → Said W → Calls Tryz.prog 46 #[.agg #[.slice F1 f3.length j1, .slice F2 n3.length j2, .slice F3 s3.length j3, .slice F4 r3.length j4, .slice F5 h3.length j5], .string x.nm] W (RV W (.tuple #[.int .i64 0, .bool true])) := fun W q hS => by have := BehindBy_impl F1 j1 f3 F2 j2 n3 F3 j3 s3 F4 j4 r3 F5 j5 h3 x.nm W q hxs hS; rw [b1] at this; exact this
                    have cLe : ∀ W, EA W A1 c1 f (some ⟨bb, off, none⟩) c2 n A3 c3 s A4 c4 r A5 c5 h → Said W → Calls Tryz.prog 46 #[.agg #[.slice A1 f.length c1, .slice (some ⟨bb, off, none⟩) n.length c2, .slice A3 s.length c3, .slice A4 r.length c4, .slice A5 h.length c5], .string x.nm] W (RV W (.tuple #[.int .i64 b, .bool true])) := fun W q hS => by have := BehindBy_impl A1 c1 f (some ⟨bb, off, none⟩) c2 n A3 c3 s A4 c4 r A5 c5 h x.nm W q hxs hS; rw [b2] at this; exact this
                    have cLs : ∀ W, EA W A1 c1 f (some ⟨bb, off, none⟩) c2 n A3 c3 s A4 c4 r A5 c5 h → Calls Tryz.prog 47 #[.agg #[.slice A1 f.length c1, .slice (some ⟨bb, off, none⟩) n.length c2, .slice A3 s.length c3, .slice A4 r.length c4, .slice A5 h.length c5], .string x.nm] W (RV W (.tuple #[.int .i64 b, .bool true])) := fun W q => by have := BehindBy_spec A1 c1 f (some ⟨bb, off, none⟩) c2 n A3 c3 s A4 c4 r A5 c5 h x.nm W q hxs; rw [b2] at this; exact this
                    have hX8 : BN wr.heap.size [.string x.nm, .int .i64 x.kd, .int .i64 x.nd, .int .i64 x.cw, .int .i64 x.st] (wr.alloc (.cells #[.string x.nm, .int .i64 x.kd, .int .i64 x.nd, .int .i64 x.cw, .int .i64 x.st] 73)) := BN.new wr #[.string x.nm, .int .i64 x.kd, .int .i64 x.nd, .int .i64 x.cw, .int .i64 x.st] 73 _ rfl
                    have hN : cells5 wr.heap.size (.string x.nm) (.int .i64 x.kd) (.int .i64 x.nd) (.int .i64 x.cw) (.int .i64 x.st) (wr.alloc (.cells #[.string x.nm, .int .i64 x.kd, .int .i64 x.nd, .int .i64 x.cw, .int .i64 x.st] 73)) := cells5.new wr _ _ _ _ _ 73 _ rfl
                    clear hX8
                    have hqn := hq.below ((Below.refl _ _).alloc (Nat.le_refl _) (.cells #[.string x.nm, .int .i64 x.kd, .int .i64 x.nd, .int .i64 x.cw, .int .i64 x.st] 73))
                    have hX0n := hX0.below ((Below.refl _ _).alloc (Nat.le_refl _) (.cells #[.string x.nm, .int .i64 x.kd, .int .i64 x.nd, .int .i64 x.cw, .int .i64 x.st] 73))
                    have han := ha.below ((Below.refl _ _).alloc (Nat.le_refl _) (.cells #[.string x.nm, .int .i64 x.kd, .int .i64 x.nd, .int .i64 x.cw, .int .i64 x.st] 73))
                    have hX3n := hX3.below ((Below.refl _ _).alloc (Nat.le_refl _) (.cells #[.string x.nm, .int .i64 x.kd, .int .i64 x.nd, .int .i64 x.cw, .int .i64 x.st] 73))
                    have hG2n := hG2.below ((Below.refl _ _).alloc (Nat.le_refl _) (.cells #[.string x.nm, .int .i64 x.kd, .int .i64 x.nd, .int .i64 x.cw, .int .i64 x.st] 73))
                    have hLLn := hLL.below ((Below.refl _ _).alloc (Nat.le_refl _) (.cells #[.string x.nm, .int .i64 x.kd, .int .i64 x.nd, .int .i64 x.cw, .int .i64 x.st] 73))
                    have hsn := hs.below ((Below.refl _ _).alloc (Nat.le_refl _) (.cells #[.string x.nm, .int .i64 x.kd, .int .i64 x.nd, .int .i64 x.cw, .int .i64 x.st] 73))
                    have hX5n := hX5.below ((Below.refl _ _).alloc (Nat.le_refl _) (.cells #[.string x.nm, .int .i64 x.kd, .int .i64 x.nd, .int .i64 x.cw, .int .i64 x.st] 73))
                    have hBn := hB.alloc hB.size (.cells #[.string x.nm, .int .i64 x.kd, .int .i64 x.nd, .int .i64 x.cw, .int .i64 x.st] 73)
                    obtain ⟨x0, x1, x2, x3, x4⟩ := id hX0
                    obtain ⟨y0, y1, y2, y3, y4⟩ := id hX3
                    obtain ⟨z0, z1, z2, z3, z4⟩ := id hN
                    obtain ⟨u0, u1, u2, u3, u4⟩ := id hX3n
                    go_wp2_with fail
                    refine (cLa _ han (hS.below hBn)).mono ?_
                    rintro e w71 ⟨rfl, hb⟩
                    clear hB hq hX0 ha hX3 hG2 hLL hs hX5 x0 x1 x2 x3 x4 y0 y1 y2 y3 y4 u0 u1 u2 u3 u4 z0 z1 z2 z3 z4 d0 d1 d2 d3 d4
                    have hq := hqn.below hb
                    have hX0 := hX0n.below hb
                    have ha := han.below hb
                    have hX3 := hX3n.below hb
                    have hG2 := hG2n.below hb
                    have hLL := hLLn.below hb
                    have hs := hsn.below hb
                    have hX5 := hX5n.below hb
                    replace hN := hN.below hb
                    have hB := Below.on' hBn hb
                    clear hb hBn cLa hqn hX0n han hX3n hG2n hLLn hsn hX5n
                    obtain ⟨x0, x1, x2, x3, x4⟩ := id hX0
                    obtain ⟨y0, y1, y2, y3, y4⟩ := id hN
                    go_wp2_with fail
                    refine (cLe _ hq (hS.below hB)).mono ?_
                    rintro e w72 ⟨rfl, hb⟩
                    replace hq := hq.below hb
                    replace hX0 := hX0.below hb
                    replace ha := ha.below hb
                    replace hX3 := hX3.below hb
                    replace hG2 := hG2.below hb
                    replace hLL := hLL.below hb
                    replace hs := hs.below hb
                    replace hX5 := hX5.below hb
                    replace hN := hN.below hb
                    replace hB := Below.on' hB hb
                    clear hb
                    clear x0 x1 x2 x3 x4
                    clear y0 y1 y2 y3 y4
                    obtain ⟨x0, x1, x2, x3, x4⟩ := id hX0
                    obtain ⟨y0, y1, y2, y3, y4⟩ := id hN
                    go_wp2_with fail
                    refine (cLs _ hq).mono ?_
                    rintro e w73 ⟨rfl, hb⟩
                    replace hq := hq.below hb
                    replace hX0 := hX0.below hb
                    replace ha := ha.below hb
                    replace hX3 := hX3.below hb
                    replace hG2 := hG2.below hb
                    replace hLL := hLL.below hb
                    replace hs := hs.below hb
                    replace hX5 := hX5.below hb
                    replace hN := hN.below hb
                    replace hB := Below.on' hB hb
                    clear hb
                    clear x0 x1 x2 x3 x4
                    clear y0 y1 y2 y3 y4
                    clear cLe cLs
                    have hbb : (b != b) = false := by simp
                    have hb0 : ¬ (b < 0) := by omega
                    by_cases e0 : b = 0
                    ·
                      have e0b : (b == 0) = true := by simp [e0]
                      have hin := say_yes (b4 e0)
                      clear b4 e0
                      obtain ⟨x0, x1, x2, x3, x4⟩ := id hN
                      go_wp2_with fail
                      refine (qSay_any Q2 g2 _ _ G x.nm _ hGl hG2.p).mono ?_
                      rintro e v5 ⟨rfl, hb⟩
                      replace hq := hq.below hb
                      replace hX0 := hX0.below hb
                      replace ha := ha.below hb
                      replace hX3 := hX3.below hb
                      replace hG2 := hG2.below hb
                      replace hLL := hLL.below hb
                      replace hs := hs.below hb
                      replace hX5 := hX5.below hb
                      replace hN := hN.below hb
                      replace hB := Below.on' hB hb
                      clear hb
                      clear x0 x1 x2 x3 x4
                      rw [hin]
                      clear hin hN
                      go_wp2
                      go_roundw
                      case rel => exact ⟨t + 1, rfl, by omega, by go_num, hB, hq, hX0, ha, hX3, hG2, hLL, hs, hX5⟩
                      case measure => simp [intOf]; omega
                    ·
                      have e0b : (b == 0) = false := by simp [e0]
                      clear b4 e0
                      go_wp2
                      go_roundw
                      case rel => exact ⟨t + 1, rfl, by omega, by go_num, hB, hq, hX0, ha, hX3, hG2, hLL, hs, hX5⟩
                      case measure => simp [intOf]; omega
                  ·
                    have hlt' : ¬ (t : Int) < n.length := by omega
                    go_wp2_with fail
                    go_meet
                    exact ⟨rfl, hB, hLL, hs, hX5⟩
          case rest =>
            as_aux_lemma =>
              obtain ⟨rfl, hI⟩ := hcut
              clear hR hV hG hon L3e
              obtain ⟨hB, hLL, hs, hX5⟩ := hI
              cases sev with
              | false =>
                go_wp2
                go_ret
                exact ⟨rfl, hB⟩
              | true =>
                obtain ⟨G', k1, k2⟩ := start_facts hZ.out rfl
                have cG : ∀ W, EA W M1 m1 l1 M2 m2 l2 M3 m3 ([] : List Msg) M4 m4 ([] : List Msg) M5 m5 ([] : List Msg) → Said W → Calls Tryz.prog 36 #[.agg #[.slice M1 l1.length m1, .slice M2 l2.length m2, .slice M3 0 m3, .slice M4 0 m4, .slice M5 0 m5]] W (RS2 Strs.cells 1 W G' true) := fun W q hS => by have := AgreeOn_impl M1 m1 l1 M2 m2 l2 M3 m3 ([] : List Msg) M4 m4 ([] : List Msg) M5 m5 ([] : List Msg) W q hS; rw [k1] at this; exact this
                have hne : ((G'.length : Int) != (l.length : Int)) = false := by simp [k2]
                clear k1 k2
                obtain ⟨x0, x1, x2, x3, x4⟩ := id hX5
                go_wp2_with fail
                refine (cG _ hs (hS.below hB)).mono ?_
                rintro e v1 ⟨Q3, g3, rfl, _, _, hb⟩
                replace hB := Below.on' hB hb
                clear hb x0 x1 x2 x3 x4
                go_wp2
                go_ret
                exact ⟨rfl, hB⟩

theorem lay_met (os : Os) (args : Array Value) : laidMetH Tryz.prog Rows.fnEndsRow.laid ((World.laidAll Tryz.prog os Rows.fnEndsRow.laid).forCall (fun _ _ => 0) ⟨#[], args, []⟩).memory := by
  rw [MakeChecks.laidMetH_plain _ _ _ (by kernel_rfl)]
  exact laidMet_laidAll _ (by kernel_rfl) (by kernel_rfl)
set_option maxRecDepth 100000 in
theorem lifted (os : Os) (started : os.Started) (H : Type) (enc : TypeId × Value → H) :
    ReturnsInHanded {} Tryz.checked os 4 .any (fun w args => (Rows.fnEndsSpec.pre enc Tryz.prog Tryz.f4 [] false w args ∧ laidMetH Tryz.prog Rows.fnEndsRow.laid w) ∧ sizedMet enc Tryz.prog Tryz.f4 (OpenSpec.ofChange Rows.fnEndsSpec) false w args) (Rows.fnEndsSpec.post enc Tryz.prog Tryz.f4 false true false false) := by
  refine law_liftedD (C := Tryz.checked) own started (by kernel_rfl) Tryz.func4
    (ChangeSpec.witness_shaped (enc := enc) (C := Tryz.checked) (os := os) (X := fun w _ => laidMetH Tryz.prog Rows.fnEndsRow.laid w) false (World.laidAll Tryz.prog os Rows.fnEndsRow.laid) #[.slice none 0 0, .slice none 0 0] 8 (World.laidAll_os _ _ _) (World.shaped_of_ZipB (by kernel_rfl) (by kernel_rfl)) (by kernel_rfl) (by kernel_rfl) (by kernel_rfl) (lay_met os _))
    laidOut 4 (by kernel_rfl) Tryz.underlying4 (by kernel_rfl) rfl ?_ ?_
  · intro ds hds
    have hn : Tryz.f4.params.size = 2 := by kernel_rfl
    rw [hn] at hds
    match ds, hds with
    | [d0, d1], _ => rfl
  intro W base args ds p hval0 hA0 hlt hnf hL _hSh
  have hval : ∀ (j : Nat) t v, Tryz.f4.params[j]? = some t → args[j]? = some v → Value.okWide Tryz.prog W .any base t v := hval0
  have hA : DataW.TrodAll enc Tryz.prog W 0 (fun _ => true) true Tryz.f4.params.toList args.toList ds p := hA0
  clear hval0 hA0
  rw [Tryz.params4] at hA hval
  obtain ⟨v0, vs0, d0, ds0, p0, q0, hargs, rfl, rfl, h0, r0⟩ := trodAll_cons hA
  obtain ⟨v1, vs1, d1, ds1, p1, q1, rfl, rfl, rfl, h1, r1⟩ := trodAll_cons r0
  obtain ⟨rfl, rfl, rfl⟩ := trodAll_nil r1
  obtain rfl : args = #[v0, v1] := by cases args; simp_all
  obtain ⟨Aco, cco, co, rfl, hlco, hmco, hSco⟩ := Byt.openedS (hval 0 22 v0 rfl rfl) h0 (fun x hx => hlt x (by simp [hx])) (fun b o h => hnf b o (by simp [h]))
  obtain ⟨Amo, cmo, mo, rfl, hlmo, hmmo, hSmo⟩ := Byt.openedS (hval 1 22 v1 rfl rfl) h1 (fun x hx => hlt x (by simp [hx])) (fun b o h => hnf b o (by simp [h]))
  exact walk Aco cco co hlco hmco Amo cmo mo hlmo hmmo W hSco hSmo hL

theorem over : Rows.fnEndsRow.holds Tryz.pinned (OpenSpec.ofChange Rows.fnEndsSpec) :=
  OpenClaim.holds_of_wide 4 Tryz.f4 rfl rfl rfl rfl rfl rfl rfl ⟨rfl, rfl, rfl, rfl, rfl⟩ rfl rfl rfl rfl rfl (by kernel_rfl) Tryz.func4 (by kernel_rfl)
    (of_decide_eq_true (by kernel_rfl)) (by unfold Func.isWrapper; first | (rw [if_pos (by decide +kernel)]; kernel_rfl) | (rw [if_neg (by decide +kernel)]; exact ⟨rfl, rfl⟩))
    (fun os started H enc _ => lifted os started H enc)

theorem proved : Rows.FnEndsCardSaid :=
  Claim7.holds_tied_plain_at .later [] [.data, .data, .data, .sentinel, .sentinel] true Rows.fnEndsCard.stood.harness Rows.fnEndsCard.stood.looks
    over (fun _ h => by cases h) (by kernel_rfl) (fun _ h => by cases h) fnEnds_row_tie rfl ⟨rfl, rfl⟩ (by kernel_rfl) rfl
    (fun f fn hf hfn => by
      obtain rfl : f = 4 := Option.some.inj ((show Tryz.prog.funcNamed "loop.example/g01020/laws.FnEnds" = some 4 by kernel_rfl).symm.trans hf) |>.symm
      obtain rfl : fn = Tryz.f4 := (Option.some.inj (Tryz.func4.symm.trans hfn)).symm
      exact ⟨by kernel_rfl, fun j t ht => by
        rw [Tryz.params4] at ht
        have hm : t ∈ [22] := by simpa using Array.mem_of_getElem? ht
        have hall : ([22].all fun u => !Tryz.prog.wantsStandIn u) = true := by kernel_rfl
        exact (show Tryz.prog.wantsStandIn t = false by simpa using List.all_eq_true.1 hall t hm)⟩)
    (by kernel_rfl)
#print axioms proved
end Go.Proofs.YtjmjilkpckbpeaaGreatDoor.lawEnds

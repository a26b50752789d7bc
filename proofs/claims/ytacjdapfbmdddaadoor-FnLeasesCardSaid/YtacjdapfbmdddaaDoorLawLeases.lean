/- FnLeases: for every drawn leases the law returns true. No conditions beyond the card's own: the listed tables are those that the program's text lays. -/
import Derived.Test.YtacjdapfbmdddaaDoorDrwM
import Derived.Test.YtacjdapfbmdddaaDoorLsQ
import Derived.Test.YtacjdapfbmdddaaDoorLsU
import Derived.Test.YtacjdapfbmdddaaDoorTie
import Derived.Test.YtacjdapfbmdddaaDoorCards
import Derived.SevenTiedAt
import Derived.Lay
import Derived.Deep.Cut
namespace Go.Proofs.YtacjdapfbmdddaaDoor.lawLeases
open Go.ChangeShapes Go.WideShapes Go.ChangeAt Go.RowKit Go.Joins Go.Proofs.YtacjdapfbmdddaaDoor

theorem leNeq (a b : Int) (w : World) : (binOp .neq 24 (.agg #[.int .i64 a, .int .i64 b]) (.agg #[.int .i64 a, .int .i64 b])).run Tryd.prog w = .ok (.bool false) w := by
  go_simp
set_option maxRecDepth 100000 in
set_option maxHeartbeats 40000000 in
theorem walk (Aco : Option Addr) (cco : Nat) (co : List Int) (hl1 : co.length ≤ maxLen) (hmco : ∀ x ∈ co, 0 ≤ x ∧ x ≤ 255) (Amo : Option Addr) (cmo : Nat) (mo : List Int) (hl2 : mo.length ≤ maxLen) (hmmo : ∀ x ∈ mo, 0 ≤ x ∧ x ≤ 255) (w : World) (hSco : Sl byE 1 w 0 w.heap.size Aco co) (hSmo : Sl byE 1 w 0 w.heap.size Amo mo) (hL : laidMetH Tryd.prog Rows.fnLeasesRow.laid w) :
    Calls Tryd.prog 3 #[.slice Aco co.length cco, .slice Amo mo.length cmo] w fun e w' => e = .returned (.bool true) ∧ Below w.heap.size w w' := by
  have hT : TabW w := by
    have h : laidMet Tryd.prog Rows.fnLeasesRow.laid w := by rw [MakeChecks.laidMetH_plain _ _ _ (by kernel_rfl)] at hL; exact hL
    exact tab_at h.tail.tail
  clear hL
  by_cases hbig : wrap64 ((co.length : Int) + mo.length) ≤ 1048576
  rotate_left
  · have hbig' : 1048576 < wrap64 ((co.length : Int) + mo.length) := by omega
    go_enter Tryd.func3, Tryd.ntmps3
    go_wp2
    go_ret
    exact ⟨rfl, by go_grown⟩
  go_enter Tryd.func3, Tryd.ntmps3
  go_wp2_with fail
  refine (DrawTakeLease_any Aco cco co _ hl1 hmco hSco).mono ?_
  rintro e w1 ⟨h, u, r, m, s, q, rfl, hb⟩
  have hB1 := hb
  clear hb
  have cTi := fun W => TakeLease_impl h u r m s q W
  have cTs := fun W => TakeLease_spec h u r m s q W
  have cRi := fun W => RenewLease_impl h u r m s q W
  have cRs := fun W => RenewLease_spec h u r m s q W
  have cGi := fun W => GiveLease_impl h u r m s W
  have cGs := fun W => GiveLease_spec h u r m s W
  have cMi := fun W => MaySend_impl h u r m s W
  have cMs := fun W => MaySend_spec h u r m s W
  have cEi := fun W => EarliestTakeover_impl h u r s W
  have cEs := fun W => EarliestTakeover_spec h u r s W
  have f1 := give_may h u r m s
  have f2 : (renewF h u r m s q).2 = true → (mayF h u r m s).1 = true := renew_may
  have f3 : ((mayF h u r m s).2 && (mayF h u r m s).1) = true → _ := may_other
  have f4 : (takeF h u r m s q).2 = true → _ := take_may
  have f5 : (renewF h u r m s q).2 = true → _ := renew_res
  have f6 : (earlyF h u r s).2 = true → 0 < (earlyF h u r s).1 → _ := early_take
  rw [give_res] at cGi cGs
  generalize takeF h u r m s q = T at cTi cTs f4
  generalize renewF h u r m s q = R at cRi cRs f2 f5
  generalize giveF h u r m s = G at cGi cGs f1
  generalize mayF h u r m s = M at cMi cMs f1 f2 f3
  generalize earlyF h u r s = E at cEi cEs f6
  obtain ⟨⟨t1, t2⟩, tk⟩ := T
  obtain ⟨⟨r1, r2⟩, rk⟩ := R
  obtain ⟨G1, gk⟩ := G
  obtain ⟨mv, mk⟩ := M
  obtain ⟨ev, ek⟩ := E
  dsimp only at cTi cTs cRi cRs cGi cGs cMi cMs cEi cEs f1 f2 f3 f4 f5 f6
  replace f1 := Lib.hid f1
  replace f2 := Lib.hid f2
  replace f3 := Lib.hid f3
  replace f4 := Lib.hid f4
  replace f5 := Lib.hid f5
  replace f6 := Lib.hid f6
  have cx0 := ((BN.new w1 #[.int .i64 h, .int .i64 u] 24 _ rfl) 0 _ rfl).1
  have cx1 := ((BN.new w1 #[.int .i64 h, .int .i64 u] 24 _ rfl) 1 _ rfl).1
  go_wp2_with fail
  refine (cTi _).mono ?_
  rintro e w2 ⟨rfl, hb⟩
  have qx := (BN.new w1 #[.int .i64 h, .int .i64 u] 24 _ rfl).below (by simp) hb
  have hB2 := Below.on' (Below.lay hB1 (.cells #[.int .i64 h, .int .i64 u] 24)) hb
  clear hb hB1 cx0 cx1
  have cx0 := ((qx.alloc (by simp) (.cells #[.int .i64 t1, .int .i64 t2] 24)) 0 _ rfl).1
  have cx1 := ((qx.alloc (by simp) (.cells #[.int .i64 t1, .int .i64 t2] 24)) 1 _ rfl).1
  go_wp2_with fail
  refine (cTs _).mono ?_
  rintro e w3 ⟨rfl, hb⟩
  replace qx := (qx.alloc (by simp) (.cells #[.int .i64 t1, .int .i64 t2] 24)).below (by simp) hb
  have qt := (BN.new w2 #[.int .i64 t1, .int .i64 t2] 24 _ rfl).below (by simp) hb
  have hB3 := Below.on' (Below.lay hB2 (.cells #[.int .i64 t1, .int .i64 t2] 24)) hb
  clear hb hB2 cx0 cx1
  have cx0 := ((qx.alloc (by simp) (.cells #[.int .i64 t1, .int .i64 t2] 24)) 0 _ rfl).1
  have cx1 := ((qx.alloc (by simp) (.cells #[.int .i64 t1, .int .i64 t2] 24)) 1 _ rfl).1
  go_wp2_with fail
  refine (cRi _).mono ?_
  rintro e w4 ⟨rfl, hb⟩
  replace qx := (qx.alloc (by simp) (.cells #[.int .i64 t1, .int .i64 t2] 24)).below (by simp) hb
  replace qt := (qt.alloc (by simp) (.cells #[.int .i64 t1, .int .i64 t2] 24)).below (by simp) hb
  have qtt := (BN.new w3 #[.int .i64 t1, .int .i64 t2] 24 _ rfl).below (by simp) hb
  have hB4 := Below.on' (Below.lay hB3 (.cells #[.int .i64 t1, .int .i64 t2] 24)) hb
  clear hb hB3 cx0 cx1
  have cx0 := ((qx.alloc (by simp) (.cells #[.int .i64 r1, .int .i64 r2] 24)) 0 _ rfl).1
  have cx1 := ((qx.alloc (by simp) (.cells #[.int .i64 r1, .int .i64 r2] 24)) 1 _ rfl).1
  go_wp2_with fail
  refine (cRs _).mono ?_
  rintro e w5 ⟨rfl, hb⟩
  replace qx := (qx.alloc (by simp) (.cells #[.int .i64 r1, .int .i64 r2] 24)).below (by simp) hb
  replace qt := (qt.alloc (by simp) (.cells #[.int .i64 r1, .int .i64 r2] 24)).below (by simp) hb
  replace qtt := (qtt.alloc (by simp) (.cells #[.int .i64 r1, .int .i64 r2] 24)).below (by simp) hb
  have qr := (BN.new w4 #[.int .i64 r1, .int .i64 r2] 24 _ rfl).below (by simp) hb
  have hB5 := Below.on' (Below.lay hB4 (.cells #[.int .i64 r1, .int .i64 r2] 24)) hb
  clear hb hB4 cx0 cx1
  have cx0 := ((qx.alloc (by simp) (.cells #[.int .i64 r1, .int .i64 r2] 24)) 0 _ rfl).1
  have cx1 := ((qx.alloc (by simp) (.cells #[.int .i64 r1, .int .i64 r2] 24)) 1 _ rfl).1
  go_wp2_with fail
  refine (cGi _).mono ?_
  rintro e w6 ⟨rfl, hb⟩
  replace qx := (qx.alloc (by simp) (.cells #[.int .i64 r1, .int .i64 r2] 24)).below (by simp) hb
  replace qt := (qt.alloc (by simp) (.cells #[.int .i64 r1, .int .i64 r2] 24)).below (by simp) hb
  replace qtt := (qtt.alloc (by simp) (.cells #[.int .i64 r1, .int .i64 r2] 24)).below (by simp) hb
  replace qr := (qr.alloc (by simp) (.cells #[.int .i64 r1, .int .i64 r2] 24)).below (by simp) hb
  have qrr := (BN.new w5 #[.int .i64 r1, .int .i64 r2] 24 _ rfl).below (by simp) hb
  have hB6 := Below.on' (Below.lay hB5 (.cells #[.int .i64 r1, .int .i64 r2] 24)) hb
  clear hb hB5 cx0 cx1
  have cx0 := ((qx.alloc (by simp) (.cells #[.int .i64 0, .int .i64 0] 24)) 0 _ rfl).1
  have cx1 := ((qx.alloc (by simp) (.cells #[.int .i64 0, .int .i64 0] 24)) 1 _ rfl).1
  go_wp2_with fail
  refine (cGs _).mono ?_
  rintro e w7 ⟨rfl, hb⟩
  replace qx := (qx.alloc (by simp) (.cells #[.int .i64 0, .int .i64 0] 24)).below (by simp) hb
  replace qt := (qt.alloc (by simp) (.cells #[.int .i64 0, .int .i64 0] 24)).below (by simp) hb
  replace qtt := (qtt.alloc (by simp) (.cells #[.int .i64 0, .int .i64 0] 24)).below (by simp) hb
  replace qr := (qr.alloc (by simp) (.cells #[.int .i64 0, .int .i64 0] 24)).below (by simp) hb
  replace qrr := (qrr.alloc (by simp) (.cells #[.int .i64 0, .int .i64 0] 24)).below (by simp) hb
  have qg := (BN.new w6 #[.int .i64 0, .int .i64 0] 24 _ rfl).below (by simp) hb
  have hB7 := Below.on' (Below.lay hB6 (.cells #[.int .i64 0, .int .i64 0] 24)) hb
  clear hb hB6 cx0 cx1
  have cx0 := ((qx.alloc (by simp) (.cells #[.int .i64 0, .int .i64 0] 24)) 0 _ rfl).1
  have cx1 := ((qx.alloc (by simp) (.cells #[.int .i64 0, .int .i64 0] 24)) 1 _ rfl).1
  go_wp2_with fail
  refine (cMi _).mono ?_
  rintro e w8 ⟨rfl, hb⟩
  replace qx := (qx.alloc (by simp) (.cells #[.int .i64 0, .int .i64 0] 24)).below (by simp) hb
  replace qt := (qt.alloc (by simp) (.cells #[.int .i64 0, .int .i64 0] 24)).below (by simp) hb
  replace qtt := (qtt.alloc (by simp) (.cells #[.int .i64 0, .int .i64 0] 24)).below (by simp) hb
  replace qr := (qr.alloc (by simp) (.cells #[.int .i64 0, .int .i64 0] 24)).below (by simp) hb
  replace qrr := (qrr.alloc (by simp) (.cells #[.int .i64 0, .int .i64 0] 24)).below (by simp) hb
  replace qg := (qg.alloc (by simp) (.cells #[.int .i64 0, .int .i64 0] 24)).below (by simp) hb
  have qgg := (BN.new w7 #[.int .i64 0, .int .i64 0] 24 _ rfl).below (by simp) hb
  have hB8 := Below.on' (Below.lay hB7 (.cells #[.int .i64 0, .int .i64 0] 24)) hb
  clear hb hB7 cx0 cx1
  have cx0 := (qx 0 _ rfl).1
  have cx1 := (qx 1 _ rfl).1
  go_wp2_with fail
  refine (cMs _).mono ?_
  rintro e w9 ⟨rfl, hb⟩
  replace qx := qx.below (by simp) hb
  replace qt := qt.below (by simp) hb
  replace qtt := qtt.below (by simp) hb
  replace qr := qr.below (by simp) hb
  replace qrr := qrr.below (by simp) hb
  replace qg := qg.below (by simp) hb
  replace qgg := qgg.below (by simp) hb
  have hB9 := Below.on' hB8 hb
  clear hb hB8 cx0 cx1
  have cx0 := (qx 0 _ rfl).1
  have cx1 := (qx 1 _ rfl).1
  go_wp2_with fail
  refine (cEi _).mono ?_
  rintro e w10 ⟨rfl, hb⟩
  replace qx := qx.below (by simp) hb
  replace qt := qt.below (by simp) hb
  replace qtt := qtt.below (by simp) hb
  replace qr := qr.below (by simp) hb
  replace qrr := qrr.below (by simp) hb
  replace qg := qg.below (by simp) hb
  replace qgg := qgg.below (by simp) hb
  have hB10 := Below.on' hB9 hb
  clear hb hB9 cx0 cx1
  have cx0 := (qx 0 _ rfl).1
  have cx1 := (qx 1 _ rfl).1
  go_wp2_with fail
  refine (cEs _).mono ?_
  rintro e w11 ⟨rfl, hb⟩
  replace qx := qx.below (by simp) hb
  replace qt := qt.below (by simp) hb
  replace qtt := qtt.below (by simp) hb
  replace qr := qr.below (by simp) hb
  replace qrr := qrr.below (by simp) hb
  replace qg := qg.below (by simp) hb
  replace qgg := qgg.below (by simp) hb
  have hB11 := Below.on' hB10 hb
  clear hb hB10 cx0 cx1
  go_wp2_with fail
  refine (DrawHolderAt_any Amo cmo mo _ hl2 hmmo (hSmo.below hB11).all).mono ?_
  rintro e w12 ⟨h2, u2, m2, rfl, hb⟩
  replace qx := qx.below (by simp) hb
  replace qt := qt.below (by simp) hb
  replace qtt := qtt.below (by simp) hb
  replace qr := qr.below (by simp) hb
  replace qrr := qrr.below (by simp) hb
  replace qg := qg.below (by simp) hb
  replace qgg := qgg.below (by simp) hb
  have hB12 := Below.on' hB11 hb
  clear hb hB11
  have cHi := fun W => HolderAt_impl h2 u2 m2 W
  have cHs := fun W => HolderAt_spec h2 u2 m2 W
  have f7 : (holdF h2 u2 m2).2 = true → 0 ≤ (holdF h2 u2 m2).1 ∧ (holdF h2 u2 m2).1 ≤ 2 := hold_in
  generalize holdF h2 u2 m2 = H at cHi cHs f7
  obtain ⟨hv, hk⟩ := H
  dsimp only at cHi cHs f7
  replace f7 := Lib.hid f7
  have cy0 := ((BN.new w12 #[.int .i64 h2, .int .i64 u2] 24 _ rfl) 0 _ rfl).1
  have cy1 := ((BN.new w12 #[.int .i64 h2, .int .i64 u2] 24 _ rfl) 1 _ rfl).1
  go_wp2_with fail
  refine (cHi _).mono ?_
  rintro e w13 ⟨rfl, hb⟩
  replace qx := (qx.alloc (by simp) (.cells #[.int .i64 h2, .int .i64 u2] 24)).below (by simp) hb
  replace qt := (qt.alloc (by simp) (.cells #[.int .i64 h2, .int .i64 u2] 24)).below (by simp) hb
  replace qtt := (qtt.alloc (by simp) (.cells #[.int .i64 h2, .int .i64 u2] 24)).below (by simp) hb
  replace qr := (qr.alloc (by simp) (.cells #[.int .i64 h2, .int .i64 u2] 24)).below (by simp) hb
  replace qrr := (qrr.alloc (by simp) (.cells #[.int .i64 h2, .int .i64 u2] 24)).below (by simp) hb
  replace qg := (qg.alloc (by simp) (.cells #[.int .i64 h2, .int .i64 u2] 24)).below (by simp) hb
  replace qgg := (qgg.alloc (by simp) (.cells #[.int .i64 h2, .int .i64 u2] 24)).below (by simp) hb
  have qy := (BN.new w12 #[.int .i64 h2, .int .i64 u2] 24 _ rfl).below (by simp) hb
  have hB13 := Below.on' (Below.lay hB12 (.cells #[.int .i64 h2, .int .i64 u2] 24)) hb
  clear hb hB12 cy0 cy1
  have cy0 := (qy 0 _ rfl).1
  have cy1 := (qy 1 _ rfl).1
  go_wp2_with fail
  refine (cHs _).mono ?_
  rintro e w14 ⟨rfl, hb⟩
  replace qx := qx.below (by simp) hb
  replace qt := qt.below (by simp) hb
  replace qtt := qtt.below (by simp) hb
  replace qr := qr.below (by simp) hb
  replace qrr := qrr.below (by simp) hb
  replace qg := qg.below (by simp) hb
  replace qgg := qgg.below (by simp) hb
  replace qy := qy.below (by simp) hb
  have hB14 := Below.on' hB13 hb
  clear hb hB13 cy0 cy1
  go_wp2_with fail
  refine (DrawLeaseText_any Amo cmo mo _ hl2 hmmo (hSmo.below hB14).all).mono ?_
  rintro e w15 ⟨h3, u3, rfl, hb⟩
  replace qx := qx.below (by simp) hb
  replace qt := qt.below (by simp) hb
  replace qtt := qtt.below (by simp) hb
  replace qr := qr.below (by simp) hb
  replace qrr := qrr.below (by simp) hb
  replace qg := qg.below (by simp) hb
  replace qgg := qgg.below (by simp) hb
  replace qy := qy.below (by simp) hb
  have hB15 := Below.on' hB14 hb
  clear hb hB14
  have cLi := fun W hW => LeaseText_impl h3 u3 W hW
  have cLs := fun W => LeaseText_spec h3 u3 W
  have cI := fun W => IsLease_impl h3 u3 W
  generalize leaseTT h3 u3 = TX at cLi cLs
  generalize leaseB h3 u3 = LB at cLi cLs cI
  have cz0 := ((BN.new w15 #[.int .i64 h3, .int .i64 u3] 24 _ rfl) 0 _ rfl).1
  have cz1 := ((BN.new w15 #[.int .i64 h3, .int .i64 u3] 24 _ rfl) 1 _ rfl).1
  go_wp2_with fail
  refine (cLi _ (hT.below (Below.lay hB15 (.cells #[.int .i64 h3, .int .i64 u3] 24)))).mono ?_
  rintro e w16 ⟨rfl, hb⟩
  replace qx := (qx.alloc (by simp) (.cells #[.int .i64 h3, .int .i64 u3] 24)).below (by simp) hb
  replace qt := (qt.alloc (by simp) (.cells #[.int .i64 h3, .int .i64 u3] 24)).below (by simp) hb
  replace qtt := (qtt.alloc (by simp) (.cells #[.int .i64 h3, .int .i64 u3] 24)).below (by simp) hb
  replace qr := (qr.alloc (by simp) (.cells #[.int .i64 h3, .int .i64 u3] 24)).below (by simp) hb
  replace qrr := (qrr.alloc (by simp) (.cells #[.int .i64 h3, .int .i64 u3] 24)).below (by simp) hb
  replace qg := (qg.alloc (by simp) (.cells #[.int .i64 h3, .int .i64 u3] 24)).below (by simp) hb
  replace qgg := (qgg.alloc (by simp) (.cells #[.int .i64 h3, .int .i64 u3] 24)).below (by simp) hb
  replace qy := (qy.alloc (by simp) (.cells #[.int .i64 h3, .int .i64 u3] 24)).below (by simp) hb
  have qz := (BN.new w15 #[.int .i64 h3, .int .i64 u3] 24 _ rfl).below (by simp) hb
  have hB16 := Below.on' (Below.lay hB15 (.cells #[.int .i64 h3, .int .i64 u3] 24)) hb
  clear hb hB15 cz0 cz1
  have cz0 := (qz 0 _ rfl).1
  have cz1 := (qz 1 _ rfl).1
  go_wp2_with fail
  refine (cLs _).mono ?_
  rintro e w17 ⟨rfl, hb⟩
  replace qx := qx.below (by simp) hb
  replace qt := qt.below (by simp) hb
  replace qtt := qtt.below (by simp) hb
  replace qr := qr.below (by simp) hb
  replace qrr := qrr.below (by simp) hb
  replace qg := qg.below (by simp) hb
  replace qgg := qgg.below (by simp) hb
  replace qy := qy.below (by simp) hb
  replace qz := qz.below (by simp) hb
  have hB17 := Below.on' hB16 hb
  clear hb hB16 cz0 cz1
  go_upto_region 20 with fail
  go_cut [264] from 51 (fun v wx => v = .bool false ∧ Below w.heap.size w wx ∧ BN w1.heap.size [.int .i64 h, .int .i64 u] wx ∧ BN w2.heap.size [.int .i64 t1, .int .i64 t2] wx ∧ BN w3.heap.size [.int .i64 t1, .int .i64 t2] wx ∧ BN w5.heap.size [.int .i64 r1, .int .i64 r2] wx ∧ BN w7.heap.size [.int .i64 0, .int .i64 0] wx)
  case first =>
    as_aux_lemma =>
      have cx0 := (qx 0 _ rfl).1
      have cx1 := (qx 1 _ rfl).1
      have ct0 := (qt 0 _ rfl).1
      have ct1 := (qt 1 _ rfl).1
      have ctt0 := (qtt 0 _ rfl).1
      have ctt1 := (qtt 1 _ rfl).1
      have cr0 := (qr 0 _ rfl).1
      have cr1 := (qr 1 _ rfl).1
      have crr0 := (qrr 0 _ rfl).1
      have crr1 := (qrr 1 _ rfl).1
      have cg0 := (qg 0 _ rfl).1
      have cg1 := (qg 1 _ rfl).1
      have cgg0 := (qgg 0 _ rfl).1
      have cgg1 := (qgg 1 _ rfl).1
      have cz0 := (qz 0 _ rfl).1
      have cz1 := (qz 1 _ rfl).1
      have hneq := leNeq
      iterate 30 (try (first | go_values | go_skip | go_guarded | go_step | go_upon))
      as_aux_lemma =>
        iterate 30 (try (first | go_values | go_skip | go_guarded | go_step | go_upon))
        as_aux_lemma =>
          iterate 30 (try (first | go_values | go_skip | go_guarded | go_step | go_upon))
          as_aux_lemma =>
            iterate 30 (try (first | go_values | go_skip | go_guarded | go_step | go_upon))
            as_aux_lemma =>
              iterate 30 (try (first | go_values | go_skip | go_guarded | go_step | go_upon))
              as_aux_lemma =>
                go_wp2_with fail
                refine (cI _).mono ?_
                rintro e w18 ⟨rfl, hb⟩
                have hB := hB17
                replace qx := qx.below (by simp) hb
                replace qt := qt.below (by simp) hb
                replace qtt := qtt.below (by simp) hb
                replace qrr := qrr.below (by simp) hb
                replace qgg := qgg.below (by simp) hb
                replace hB := Below.on' hB hb
                clear hb
                clear cx0 cx1 ct0 ct1 ctt0 ctt1 cr0 cr1 crr0 crr1 cg0 cg1 cgg0 cgg1 cz0 cz1
                have f2a : rk = true → mv = true := f2.out
                cases mk <;> cases mv <;> (have g0 := f1.out; clear f1; simp at g0; subst g0; cases rk <;> (first | exact absurd (f2a rfl) (by decide) | (clear f2a; as_aux_lemma => (go_wp2_with fail; go_meet; exact ⟨rfl, hB, qx, qt, qtt, qrr, qgg⟩))))
  case rest =>
    obtain ⟨rfl, hI⟩ := hcut
    clear qx qt qtt qr qrr qg qgg qy qz hB17 cTi cTs cRi cRs cGi cGs cMi cMs cEi cEs cHi cHs cLi cLs cI f2 hSmo hT
    go_upto_region 22 with fail
    go_cut [268] from 389 (fun v wx => v = .bool (mk && mv) ∧ Below w.heap.size w wx ∧ BN w1.heap.size [.int .i64 h, .int .i64 u] wx ∧ BN w2.heap.size [.int .i64 t1, .int .i64 t2] wx ∧ BN w3.heap.size [.int .i64 t1, .int .i64 t2] wx ∧ BN w5.heap.size [.int .i64 r1, .int .i64 r2] wx ∧ BN w7.heap.size [.int .i64 0, .int .i64 0] wx)
    case first =>
      as_aux_lemma =>
        obtain ⟨hB, qx, qt, qtt, qrr, qgg⟩ := hI
        cases mk with
        | false =>
          cases mv <;> (have g0 := f1.out; clear f1; simp at g0; subst g0; go_wp2_with fail; go_meet; exact ⟨rfl, hB, qx, qt, qtt, qrr, qgg⟩)
        | true =>
          cases mv <;> (have g0 := f1.out; clear f1; simp at g0; subst g0; go_wp2_with fail; go_meet; exact ⟨rfl, hB, qx, qt, qtt, qrr, qgg⟩)
    case rest =>
      obtain ⟨rfl, hI⟩ := hcut
      go_upto_if 268 with fail
      go_cut [4] from 389 (fun v wx => v = .bool false ∧ Below w.heap.size w wx ∧ BN w1.heap.size [.int .i64 h, .int .i64 u] wx ∧ BN w2.heap.size [.int .i64 t1, .int .i64 t2] wx ∧ BN w3.heap.size [.int .i64 t1, .int .i64 t2] wx ∧ BN w5.heap.size [.int .i64 r1, .int .i64 r2] wx ∧ BN w7.heap.size [.int .i64 0, .int .i64 0] wx)
      case first =>
        as_aux_lemma =>
          obtain ⟨hB, qx, qt, qtt, qrr, qgg⟩ := hI
          cases mk with
          | false =>
            rw [Bool.false_and]
            have g0 := f1.out; clear f1 f3; simp at g0; subst g0
            go_wp2_with fail
            go_meet
            exact ⟨rfl, hB, qx, qt, qtt, qrr, qgg⟩
          | true =>
            cases mv with
            | false =>
              rw [Bool.and_false]
              have g0 := f1.out; clear f1 f3; simp at g0; subst g0
              go_wp2_with fail
              go_meet
              exact ⟨rfl, hB, qx, qt, qtt, qrr, qgg⟩
            | true =>
              simp only [Bool.and_self]
              have g0 := f1.out; clear f1; simp only [Bool.and_self] at g0; subst g0
              obtain ⟨g1, g2, g3⟩ := f3.out rfl
              have c1 := MaySend_impl h u (wrap64 (3 - r)) m s
              have c2 := HolderAt_impl h u m
              have c3 := TakeLease_impl h u (wrap64 (3 - r)) m s 1
              rw [g1] at c1
              rw [g2] at c2
              generalize takeF h u (wrap64 (3 - r)) m s 1 = X at c3 g3
              obtain ⟨⟨x1, x2⟩, xk⟩ := X
              dsimp only at c3 g3
              subst g3
              clear g1 g2 f3
              have cx0 := (qx 0 _ rfl).1
              have cx1 := (qx 1 _ rfl).1
              go_wp2_with fail
              refine (c1 _).mono ?_
              rintro e v1 ⟨rfl, hb⟩
              replace qx := qx.below (by simp) hb
              replace qt := qt.below (by simp) hb
              replace qtt := qtt.below (by simp) hb
              replace qrr := qrr.below (by simp) hb
              replace qgg := qgg.below (by simp) hb
              replace hB := Below.on' hB hb
              clear hb
              clear cx0 cx1
              have cx0 := (qx 0 _ rfl).1
              have cx1 := (qx 1 _ rfl).1
              go_wp2_with fail
              refine (c2 _).mono ?_
              rintro e v2 ⟨rfl, hb⟩
              replace qx := qx.below (by simp) hb
              replace qt := qt.below (by simp) hb
              replace qtt := qtt.below (by simp) hb
              replace qrr := qrr.below (by simp) hb
              replace qgg := qgg.below (by simp) hb
              replace hB := Below.on' hB hb
              clear hb
              clear cx0 cx1
              have cx0 := (qx 0 _ rfl).1
              have cx1 := (qx 1 _ rfl).1
              go_wp2_with fail
              refine (c3 _).mono ?_
              rintro e v3 ⟨rfl, hb⟩
              replace qx := qx.below (by simp) hb
              replace qt := qt.below (by simp) hb
              replace qtt := qtt.below (by simp) hb
              replace qrr := qrr.below (by simp) hb
              replace qgg := qgg.below (by simp) hb
              replace hB := Below.on' hB hb
              clear hb
              clear cx0 cx1
              replace qx := qx.alloc (by simp) (.cells #[.int .i64 x1, .int .i64 x2] 24)
              replace qt := qt.alloc (by simp) (.cells #[.int .i64 x1, .int .i64 x2] 24)
              replace qtt := qtt.alloc (by simp) (.cells #[.int .i64 x1, .int .i64 x2] 24)
              replace qrr := qrr.alloc (by simp) (.cells #[.int .i64 x1, .int .i64 x2] 24)
              replace qgg := qgg.alloc (by simp) (.cells #[.int .i64 x1, .int .i64 x2] 24)
              replace hB := Below.lay hB (.cells #[.int .i64 x1, .int .i64 x2] 24)
              go_wp2_with fail
              go_meet
              exact ⟨rfl, hB, qx, qt, qtt, qrr, qgg⟩
      case rest =>
        obtain ⟨rfl, hI⟩ := hcut
        clear f3
        go_upto_if 310 with fail
        go_cut [4] from 389 (fun v wx => v = .bool false ∧ Below w.heap.size w wx ∧ BN w1.heap.size [.int .i64 h, .int .i64 u] wx ∧ BN w2.heap.size [.int .i64 t1, .int .i64 t2] wx ∧ BN w3.heap.size [.int .i64 t1, .int .i64 t2] wx ∧ BN w5.heap.size [.int .i64 r1, .int .i64 r2] wx ∧ BN w7.heap.size [.int .i64 0, .int .i64 0] wx)
        case first =>
          as_aux_lemma =>
            obtain ⟨hB, qx, qt, qtt, qrr, qgg⟩ := hI
            cases tk with
            | false =>
              go_wp2_with fail
              go_meet
              exact ⟨rfl, hB, qx, qt, qtt, qrr, qgg⟩
            | true =>
              obtain ⟨k1, k2, k3⟩ := f4.out rfl
              have cY := MaySend_impl t1 t2 r m s
              rw [k1] at cY
              dsimp only at cY
              clear k1
              replace k2 := Lib.hid k2
              replace k3 := Lib.hid k3
              have ct0 := (qt 0 _ rfl).1
              have ct1 := (qt 1 _ rfl).1
              go_wp2_with fail
              refine (cY _).mono ?_
              rintro e v1 ⟨rfl, hb⟩
              replace qx := qx.below (by simp) hb
              replace qt := qt.below (by simp) hb
              replace qtt := qtt.below (by simp) hb
              replace qrr := qrr.below (by simp) hb
              replace qgg := qgg.below (by simp) hb
              replace hB := Below.on' hB hb
              clear hb
              clear ct0 ct1
              have ctt0 := (qtt 0 _ rfl).1
              have ctt1 := (qtt 1 _ rfl).1
              have k4 : (t1 != r) = false := by rw [k2.out]; simp
              have k5 : (t2 != wrap64 (m + q)) = false := by rw [k3.out]; simp
              go_wp2_with fail
              go_meet
              exact ⟨rfl, hB, qx, qt, qtt, qrr, qgg⟩
        case rest =>
          obtain ⟨rfl, hI⟩ := hcut
          clear f4
          go_upto_region 32 with fail
          go_cut [363] from 389 (fun v wx => v = .bool false ∧ Below w.heap.size w wx ∧ BN w1.heap.size [.int .i64 h, .int .i64 u] wx ∧ BN w2.heap.size [.int .i64 t1, .int .i64 t2] wx ∧ BN w3.heap.size [.int .i64 t1, .int .i64 t2] wx ∧ BN w5.heap.size [.int .i64 r1, .int .i64 r2] wx ∧ BN w7.heap.size [.int .i64 0, .int .i64 0] wx)
          case first =>
            as_aux_lemma =>
              obtain ⟨hB, qx, qt, qtt, qrr, qgg⟩ := hI
              have crr0 := (qrr 0 _ rfl).1
              have crr1 := (qrr 1 _ rfl).1
              have cx0 := (qx 0 _ rfl).1
              have cx1 := (qx 1 _ rfl).1
              have cgg0 := (qgg 0 _ rfl).1
              have cgg1 := (qgg 1 _ rfl).1
              have hneq := leNeq
              cases rk with
              | false =>
                cases mk with
                | false =>
                  cases mv <;> (have g0 := f1.out; clear f1; simp at g0; subst g0; go_wp2_with fail; go_meet; exact ⟨rfl, hB, qx, qt, qtt, qrr, qgg⟩)
                | true =>
                  cases mv <;> (have g0 := f1.out; clear f1; simp at g0; subst g0; go_wp2_with fail; go_meet; exact ⟨rfl, hB, qx, qt, qtt, qrr, qgg⟩)
              | true =>
                obtain ⟨k3, k4⟩ := f5.out rfl
                have k3' : u ≤ r2 := by omega
                replace k4 := Lib.hid k4
                have k5 : (r1 != r) = false := by rw [k4.out]; simp
                cases mk with
                | false =>
                  cases mv <;> (have g0 := f1.out; clear f1; simp at g0; subst g0; go_wp2_with fail; go_meet; exact ⟨(by simp only [Value.bool.injEq, decide_eq_false_iff_not]; omega), hB, qx, qt, qtt, qrr, qgg⟩)
                | true =>
                  cases mv <;> (have g0 := f1.out; clear f1; simp at g0; subst g0; go_wp2_with fail; go_meet; exact ⟨(by simp only [Value.bool.injEq, decide_eq_false_iff_not]; omega), hB, qx, qt, qtt, qrr, qgg⟩)
          case rest =>
            obtain ⟨rfl, hI⟩ := hcut
            clear f5
            go_upto_region 34 with fail
            go_cut [368] from 389 (fun v wx => v = .bool (ek && decide (0 < ev)) ∧ Below w.heap.size w wx ∧ BN w1.heap.size [.int .i64 h, .int .i64 u] wx ∧ BN w2.heap.size [.int .i64 t1, .int .i64 t2] wx ∧ BN w3.heap.size [.int .i64 t1, .int .i64 t2] wx ∧ BN w5.heap.size [.int .i64 r1, .int .i64 r2] wx ∧ BN w7.heap.size [.int .i64 0, .int .i64 0] wx)
            case first =>
              as_aux_lemma =>
                obtain ⟨hB, qx, qt, qtt, qrr, qgg⟩ := hI
                cases ek with
                | false =>
                  go_wp2_with fail
                  go_meet
                  exact ⟨rfl, hB, qx, qt, qtt, qrr, qgg⟩
                | true =>
                  by_cases hev : 0 < ev
                  · go_wp2_with fail
                    go_meet
                    exact ⟨by simp [hev], hB, qx, qt, qtt, qrr, qgg⟩
                  · have hev2 : ev ≤ 0 := by omega
                    go_wp2_with fail
                    go_meet
                    exact ⟨by simp; omega, hB, qx, qt, qtt, qrr, qgg⟩
            case rest =>
              obtain ⟨rfl, hI⟩ := hcut
              go_upto_if 368 with fail
              go_cut [4, 368] from 389 (fun v _ wx => v = .bool false ∧ Below w.heap.size w wx ∧ BN w1.heap.size [.int .i64 h, .int .i64 u] wx ∧ BN w2.heap.size [.int .i64 t1, .int .i64 t2] wx ∧ BN w3.heap.size [.int .i64 t1, .int .i64 t2] wx ∧ BN w5.heap.size [.int .i64 r1, .int .i64 r2] wx ∧ BN w7.heap.size [.int .i64 0, .int .i64 0] wx)
              case first =>
                as_aux_lemma =>
                  obtain ⟨hB, qx, qt, qtt, qrr, qgg⟩ := hI
                  cases ek with
                  | false =>
                    rw [Bool.false_and]
                    clear f6
                    go_wp2_with fail
                    go_meet
                    exact ⟨rfl, hB, qx, qt, qtt, qrr, qgg⟩
                  | true =>
                    by_cases hev : 0 < ev
                    · skip
                      have hd : decide (0 < ev) = true := by simp [hev]
                      have cX := TakeLease_impl h u r (wrap64 (ev - 1)) s 1
                      have k6 := f6.out rfl hev
                      generalize takeF h u r (wrap64 (ev - 1)) s 1 = X at cX k6
                      obtain ⟨⟨x1, x2⟩, xk⟩ := X
                      dsimp only at cX k6
                      subst k6
                      rw [hd, Bool.true_and]
                      clear hd f6
                      have cx0 := (qx 0 _ rfl).1
                      have cx1 := (qx 1 _ rfl).1
                      go_wp2_with fail
                      refine (cX _).mono ?_
                      rintro e v1 ⟨rfl, hb⟩
                      replace qx := qx.below (by simp) hb
                      replace qt := qt.below (by simp) hb
                      replace qtt := qtt.below (by simp) hb
                      replace qrr := qrr.below (by simp) hb
                      replace qgg := qgg.below (by simp) hb
                      replace hB := Below.on' hB hb
                      clear hb
                      clear cx0 cx1
                      replace qx := qx.alloc (by simp) (.cells #[.int .i64 x1, .int .i64 x2] 24)
                      replace qt := qt.alloc (by simp) (.cells #[.int .i64 x1, .int .i64 x2] 24)
                      replace qtt := qtt.alloc (by simp) (.cells #[.int .i64 x1, .int .i64 x2] 24)
                      replace qrr := qrr.alloc (by simp) (.cells #[.int .i64 x1, .int .i64 x2] 24)
                      replace qgg := qgg.alloc (by simp) (.cells #[.int .i64 x1, .int .i64 x2] 24)
                      replace hB := Below.lay hB (.cells #[.int .i64 x1, .int .i64 x2] 24)
                      go_wp2_with fail
                      go_meet
                      exact ⟨rfl, hB, qx, qt, qtt, qrr, qgg⟩
                    have hd : decide (0 < ev) = false := by simp; omega
                    rw [hd, Bool.true_and]
                    clear hd f6
                    go_wp2_with fail
                    go_meet
                    exact ⟨rfl, hB, qx, qt, qtt, qrr, qgg⟩
              case rest =>
                obtain ⟨rfl, hI⟩ := hcut
                clear f1 f6
                have hB := hI.1
                cases hk with
                | false =>
                  go_wp2
                  go_ret
                  exact ⟨rfl, hB⟩
                | true =>
                  obtain ⟨k7, k8⟩ := f7.out rfl
                  go_wp2
                  go_ret
                  exact ⟨rfl, hB⟩
theorem lay_met (os : Os) (args : Array Value) : laidMetH Tryd.prog Rows.fnLeasesRow.laid ((World.laidAll Tryd.prog os Rows.fnLeasesRow.laid).forCall (fun _ _ => 0) ⟨#[], args, []⟩).memory := by
  rw [MakeChecks.laidMetH_plain _ _ _ (by kernel_rfl)]
  exact laidMet_laidAll _ (by kernel_rfl) (by kernel_rfl)
set_option maxRecDepth 100000 in
theorem lifted (os : Os) (started : os.Started) (H : Type) (enc : TypeId × Value → H) :
    ReturnsInHanded {} Tryd.checked os 3 .any (fun w args => (Rows.fnLeasesSpec.pre enc Tryd.prog Tryd.f3 [] false w args ∧ laidMetH Tryd.prog Rows.fnLeasesRow.laid w) ∧ sizedMet enc Tryd.prog Tryd.f3 (OpenSpec.ofChange Rows.fnLeasesSpec) false w args) (Rows.fnLeasesSpec.post enc Tryd.prog Tryd.f3 false true false false) := by
  refine law_liftedD (C := Tryd.checked) own started (by kernel_rfl) Tryd.func3
    (ChangeSpec.witness_shaped (enc := enc) (C := Tryd.checked) (os := os) (X := fun w _ => laidMetH Tryd.prog Rows.fnLeasesRow.laid w) false (World.laidAll Tryd.prog os Rows.fnLeasesRow.laid) #[.slice none 0 0, .slice none 0 0] 8 (World.laidAll_os _ _ _) (World.shaped_of_ZipB (by kernel_rfl) (by kernel_rfl)) (by kernel_rfl) (by kernel_rfl) (by kernel_rfl) (lay_met os _))
    laidOut 4 (by kernel_rfl) Tryd.underlying4 (by kernel_rfl) rfl ?_ ?_
  · intro ds hds
    have hn : Tryd.f3.params.size = 2 := by kernel_rfl
    rw [hn] at hds
    match ds, hds with
    | [d0, d1], _ => rfl
  intro W base args ds p hval0 hA0 hlt hnf hL _hSh
  have hval : ∀ (j : Nat) t v, Tryd.f3.params[j]? = some t → args[j]? = some v → Value.okWide Tryd.prog W .any base t v := hval0
  have hA : DataW.TrodAll enc Tryd.prog W 0 (fun _ => true) true Tryd.f3.params.toList args.toList ds p := hA0
  clear hval0 hA0
  rw [Tryd.params3] at hA hval
  obtain ⟨v0, vs0, d0, ds0, p0, q0, hargs, rfl, rfl, h0, r0⟩ := trodAll_cons hA
  obtain ⟨v1, vs1, d1, ds1, p1, q1, rfl, rfl, rfl, h1, r1⟩ := trodAll_cons r0
  obtain ⟨rfl, rfl, rfl⟩ := trodAll_nil r1
  obtain rfl : args = #[v0, v1] := by cases args; simp_all
  obtain ⟨Aco, cco, co, rfl, hlco, hmco, hSco⟩ := Byt.openedS (hval 0 22 v0 rfl rfl) h0 (fun x hx => hlt x (by simp [hx])) (fun b o h => hnf b o (by simp [h]))
  obtain ⟨Amo, cmo, mo, rfl, hlmo, hmmo, hSmo⟩ := Byt.openedS (hval 1 22 v1 rfl rfl) h1 (fun x hx => hlt x (by simp [hx])) (fun b o h => hnf b o (by simp [h]))
  exact walk Aco cco co hlco hmco Amo cmo mo hlmo hmmo W hSco hSmo hL

theorem over : Rows.fnLeasesRow.holds Tryd.pinned (OpenSpec.ofChange Rows.fnLeasesSpec) :=
  OpenClaim.holds_of_wide 3 Tryd.f3 rfl rfl rfl rfl rfl rfl rfl ⟨rfl, rfl, rfl, rfl, rfl⟩ rfl rfl rfl rfl rfl (by kernel_rfl) Tryd.func3 (by kernel_rfl)
    (of_decide_eq_true (by kernel_rfl)) (by unfold Func.isWrapper; first | (rw [if_pos (by decide +kernel)]; kernel_rfl) | (rw [if_neg (by decide +kernel)]; exact ⟨rfl, rfl⟩))
    (fun os started H enc _ => lifted os started H enc)

theorem proved : Rows.FnLeasesCardSaid :=
  Claim7.holds_tied_plain_at .later [] [.data, .data, .data] true Rows.fnLeasesCard.stood.harness Rows.fnLeasesCard.stood.looks
    over (fun _ h => by cases h) (by kernel_rfl) (fun _ h => by cases h) fnLeases_row_tie rfl ⟨rfl, rfl⟩ (by kernel_rfl) rfl
    (fun f fn hf hfn => by
      obtain rfl : f = 3 := Option.some.inj ((show Tryd.prog.funcNamed "loop.example/g01020/laws.FnLeases" = some 3 by kernel_rfl).symm.trans hf) |>.symm
      obtain rfl : fn = Tryd.f3 := (Option.some.inj (Tryd.func3.symm.trans hfn)).symm
      exact ⟨by kernel_rfl, fun j t ht => by
        rw [Tryd.params3] at ht
        have hm : t ∈ [22] := by simpa using Array.mem_of_getElem? ht
        have hall : ([22].all fun u => !Tryd.prog.wantsStandIn u) = true := by kernel_rfl
        exact (show Tryd.prog.wantsStandIn t = false by simpa using List.all_eq_true.1 hall t hm)⟩)
    (by kernel_rfl)
#print axioms proved
end Go.Proofs.YtacjdapfbmdddaaDoor.lawLeases

/- ChangeState on both sides. Conditions: at most 2^20 in each list, texts of at most 2^20; the listed variables as Said has them. -/
import Derived.Test.YtjmjilkpckbpeaaGreatDoorEndT
namespace Go.Proofs.YtjmjilkpckbpeaaGreatDoor
open Go.RowKit

set_option maxHeartbeats 8000000 in
theorem ChangeState_spec (Al : Option Addr) (cl : Nat) (l : List App) (nm : ByteArray) (st : Int) (w : World) (hl : l.length ≤ 1048576) (hm : ∀ y ∈ l, y.nm.size ≤ 1048576) (hS : Apps w 0 w.heap.size Al l) :
    Calls Tryz.prog 107 #[.slice Al l.length cl, .string nm, .int .i64 st] w (RS2 App.cells 5 w (chgT l nm st).1 (chgT l nm st).2) := by
  generalize hQ : chgT l nm st = t
  replace hQ := Lib.hid hQ
  have hid0 : idxG (fun a : App => decide (a.nm.toList = nm.toList)) l 0 < l.length ∨ idxG (fun a : App => decide (a.nm.toList = nm.toList)) l 0 = -1 := idxG_lt _ l
  have hid1 := (idxG_ge (fun a : App => decide (a.nm.toList = nm.toList)) l 0).1
  go_enter Tryz.func107, Tryz.ntmps107
  go_wp2_with fail
  refine (apFind_any Al cl l nm _ hl hS).mono ?_
  rintro e w1 ⟨rfl, hB⟩
  have HI : Hid (chgI l nm = idxG (fun a : App => decide (a.nm.toList = nm.toList)) l 0) := Lib.hid rfl
  generalize idxG (fun a : App => decide (a.nm.toList = nm.toList)) l 0 = i at hid0 hid1 HI ⊢
  have hS1 := (hS.below hB).all
  go_wp2_with fail
  refine (apFleet_any Al cl l _ hl hm hS1).mono ?_
  rintro e w2 ⟨rfl, hb⟩
  replace hB := Below.on' hB hb
  replace hS1 := (hS1.below hb).all
  clear hb
  by_cases g1 : fleetB l = true
  rotate_left
  · have g1 : fleetB l = false := by simpa using g1
    obtain rfl : ([], false) = t := (chgT_no1 g1).symm.trans hQ.out
    rw [g1]
    go_wp2
    go_ret2
    exact RS2.nil_ rfl rfl hB
  rw [g1]
  by_cases g2 : i < 0
  · obtain rfl : ([], false) = t := (chgT_no2 (by rw [HI.out]; exact g2)).symm.trans hQ.out
    clear HI hid0 hid1
    go_wp2
    go_ret2
    exact RS2.nil_ rfl rfl hB
  obtain ⟨k, rfl⟩ : ∃ k : Nat, i = k := ⟨i.toNat, by omega⟩
  have hk : k < l.length := by omega
  have g2' : ¬ (k : Int) < 0 := by omega
  clear hid0 hid1 g2
  go_wp2_with fail
  refine (apState_a st _).mono ?_
  rintro e w3 ⟨rfl, hb⟩
  replace hB := Below.on' hB hb
  replace hS1 := (hS1.below hb).all
  clear hb
  by_cases g3 : stOk st = true
  rotate_left
  · have g3 : stOk st = false := by simpa using g3
    obtain rfl : ([], false) = t := (chgT_no3 g3).symm.trans hQ.out
    rw [g3]
    go_wp2
    go_ret2
    exact RS2.nil_ rfl rfl hB
  rw [g3]
  obtain ⟨a, ha, _⟩ := get_lt hk
  obtain ⟨b, off, rfl, hlo, hhi, _, hf⟩ := hS1.at_ ha
  have c0 : w3.cell? ⟨b, off + k * 5, none⟩ = some (.string a.nm) := (hf 0 _ rfl).1
  have c1 : w3.cell? ⟨b, off + k * 5 + 1, none⟩ = some (.int .i64 a.kd) := (hf 1 _ rfl).1
  have c2 : w3.cell? ⟨b, off + k * 5 + 2, none⟩ = some (.int .i64 a.nd) := (hf 2 _ rfl).1
  have c3 : w3.cell? ⟨b, off + k * 5 + 3, none⟩ = some (.int .i64 a.cw) := (hf 3 _ rfl).1
  have c4 : w3.cell? ⟨b, off + k * 5 + 4, none⟩ = some (.int .i64 a.st) := (hf 4 _ rfl).1
  have HA := Lib.hid ha
  clear ha hf
  go_wp2_with fail
  refine (apMay_any a.st st _).mono ?_
  rintro e w4 ⟨rfl, hb⟩
  replace hB := Below.on' hB hb
  replace hS1 := (hS1.below hb).all
  replace c0 := keep hb c0
  replace c1 := keep hb c1
  replace c2 := keep hb c2
  replace c3 := keep hb c3
  replace c4 := keep hb c4
  clear hb
  by_cases g4 : mayB a.st st = true
  rotate_left
  · have g4 : mayB a.st st = false := by simpa using g4
    obtain rfl : ([], false) = t := (chgT_no4 HI.out HA.out g4).symm.trans hQ.out
    rw [g4]
    go_wp2
    go_ret2
    exact RS2.nil_ rfl rfl hB
  rw [g4]
  obtain rfl : (l.set k (withSt a st), true) = t := (chgT_yes g1 HI.out g3 HA.out g4).symm.trans hQ.out
  clear hQ g1 g3 g4 HI
  have hbn : Below w4.heap.size w4 (w4.alloc (.cells #[.string (withSt a st).nm, .int .i64 (withSt a st).kd, .int .i64 (withSt a st).nd, .int .i64 (withSt a st).cw, .int .i64 (withSt a st).st] 73)) := (Below.refl _ _).alloc (Nat.le_refl _) _
  replace hS1 := (hS1.below hbn).all
  replace hB := Below.on' hB hbn
  go_wp2_with fail
  refine (apWith_any _ cl l k (withSt a st) _ hl hS1 hk).mono ?_
  rintro e w5 ⟨A5, c5, rfl, hS5, hc5, hb⟩
  have hz := hB.size
  replace hB := Below.on' hB hb
  go_wp2
  go_ret2
  exact RS2.of rfl (by rw [List.length_set]) rfl hS5 (by omega) hc5 hB
set_option maxHeartbeats 8000000 in
theorem ChangeState_impl (Al : Option Addr) (cl : Nat) (l : List App) (nm : ByteArray) (st : Int) (w : World) (hl : l.length ≤ 1048576) (hm : ∀ y ∈ l, y.nm.size ≤ 1048576) (hS : Apps w 0 w.heap.size Al l) :
    Calls Tryz.prog 102 #[.slice Al l.length cl, .string nm, .int .i64 st] w (RS2 App.cells 5 w (chgT l nm st).1 (chgT l nm st).2) := by
  generalize hQ : chgT l nm st = t
  replace hQ := Lib.hid hQ
  have hid0 : idxG (fun a : App => decide (a.nm.toList = nm.toList)) l 0 < l.length ∨ idxG (fun a : App => decide (a.nm.toList = nm.toList)) l 0 = -1 := idxG_lt _ l
  have hid1 := (idxG_ge (fun a : App => decide (a.nm.toList = nm.toList)) l 0).1
  go_enter Tryz.func102, Tryz.ntmps102
  go_wp2_with fail
  refine (findAppliance_any Al cl l nm _ hl hS).mono ?_
  rintro e w1 ⟨rfl, hB⟩
  have HI : Hid (chgI l nm = idxG (fun a : App => decide (a.nm.toList = nm.toList)) l 0) := Lib.hid rfl
  generalize idxG (fun a : App => decide (a.nm.toList = nm.toList)) l 0 = i at hid0 hid1 HI ⊢
  have hS1 := (hS.below hB).all
  go_wp2_with fail
  refine (isFleet_any Al cl l _ hl hm hS1).mono ?_
  rintro e w2 ⟨rfl, hb⟩
  replace hB := Below.on' hB hb
  replace hS1 := (hS1.below hb).all
  clear hb
  by_cases g1 : fleetB l = true
  rotate_left
  · have g1 : fleetB l = false := by simpa using g1
    obtain rfl : ([], false) = t := (chgT_no1 g1).symm.trans hQ.out
    rw [g1]
    go_wp2
    go_ret2
    exact RS2.nil_ rfl rfl hB
  rw [g1]
  by_cases g2 : i < 0
  · obtain rfl : ([], false) = t := (chgT_no2 (by rw [HI.out]; exact g2)).symm.trans hQ.out
    clear HI hid0 hid1
    go_wp2
    go_ret2
    exact RS2.nil_ rfl rfl hB
  obtain ⟨k, rfl⟩ : ∃ k : Nat, i = k := ⟨i.toNat, by omega⟩
  have hk : k < l.length := by omega
  have g2' : ¬ (k : Int) < 0 := by omega
  clear hid0 hid1 g2
  go_wp2_with fail
  refine (isState_a st _).mono ?_
  rintro e w3 ⟨rfl, hb⟩
  replace hB := Below.on' hB hb
  replace hS1 := (hS1.below hb).all
  clear hb
  by_cases g3 : stOk st = true
  rotate_left
  · have g3 : stOk st = false := by simpa using g3
    obtain rfl : ([], false) = t := (chgT_no3 g3).symm.trans hQ.out
    rw [g3]
    go_wp2
    go_ret2
    exact RS2.nil_ rfl rfl hB
  rw [g3]
  obtain ⟨a, ha, _⟩ := get_lt hk
  obtain ⟨b, off, rfl, hlo, hhi, _, hf⟩ := hS1.at_ ha
  have c0 : w3.cell? ⟨b, off + k * 5, none⟩ = some (.string a.nm) := (hf 0 _ rfl).1
  have c1 : w3.cell? ⟨b, off + k * 5 + 1, none⟩ = some (.int .i64 a.kd) := (hf 1 _ rfl).1
  have c2 : w3.cell? ⟨b, off + k * 5 + 2, none⟩ = some (.int .i64 a.nd) := (hf 2 _ rfl).1
  have c3 : w3.cell? ⟨b, off + k * 5 + 3, none⟩ = some (.int .i64 a.cw) := (hf 3 _ rfl).1
  have c4 : w3.cell? ⟨b, off + k * 5 + 4, none⟩ = some (.int .i64 a.st) := (hf 4 _ rfl).1
  have HA := Lib.hid ha
  clear ha hf
  go_wp2_with fail
  refine (following_any a.st _).mono ?_
  rintro e w4 ⟨A9, c9, rfl, hS4, _, hb⟩
  replace hB := Below.on' hB hb
  replace hS1 := (hS1.below hb).all
  clear hb c0 c1 c2 c3 c4
  go_wp2_with fail
  refine (containsInts_any A9 c9 (nextI a.st) st _ _ _ (Nat.le_trans (nextI_len a.st) (by omega)) hS4).mono ?_
  rw [nextI_may]
  rintro e w5 ⟨rfl, hb⟩
  replace hB := Below.on' hB hb
  replace hS1 := (hS1.below hb).all
  clear hb hS4
  by_cases g4 : mayB a.st st = true
  rotate_left
  · have g4 : mayB a.st st = false := by simpa using g4
    obtain rfl : ([], false) = t := (chgT_no4 HI.out HA.out g4).symm.trans hQ.out
    rw [g4]
    go_wp2
    go_ret2
    exact RS2.nil_ rfl rfl hB
  rw [g4]
  obtain rfl : (l.set k (withSt a st), true) = t := (chgT_yes g1 HI.out g3 HA.out g4).symm.trans hQ.out
  clear hQ g1 g3 g4 HI
  go_wp2_with fail
  refine (App.Clone_any _ cl l _ hl hS1).mono ?_
  rintro e w6 ⟨A6, c6, rfl, hO, hb⟩
  have hz := hB.size
  replace hB := Below.on' hB hb
  have hS6 := hO.sl App.len
  have hcap := hO.cap
  obtain ⟨b6, off6, rfl, hlo6, hhi6, _, hf⟩ := hS6.at_ HA.out
  have d0 : w6.cell? ⟨b6, off6 + k * 5, none⟩ = some (.string a.nm) := (hf 0 _ rfl).1
  have d1 : w6.cell? ⟨b6, off6 + k * 5 + 1, none⟩ = some (.int .i64 a.kd) := (hf 1 _ rfl).1
  have d2 : w6.cell? ⟨b6, off6 + k * 5 + 2, none⟩ = some (.int .i64 a.nd) := (hf 2 _ rfl).1
  have d3 : w6.cell? ⟨b6, off6 + k * 5 + 3, none⟩ = some (.int .i64 a.cw) := (hf 3 _ rfl).1
  have d4 : w6.cell? ⟨b6, off6 + k * 5 + 4, none⟩ = some (.int .i64 a.st) := (hf 4 _ rfl).1
  have z0 : w6.frozen? ⟨b6, off6 + k * 5, none⟩ = false := (hf 0 _ rfl).2
  have z1 : w6.frozen? ⟨b6, off6 + k * 5 + 1, none⟩ = false := (hf 1 _ rfl).2
  have z2 : w6.frozen? ⟨b6, off6 + k * 5 + 2, none⟩ = false := (hf 2 _ rfl).2
  have z3 : w6.frozen? ⟨b6, off6 + k * 5 + 3, none⟩ = false := (hf 3 _ rfl).2
  have z4 : w6.frozen? ⟨b6, off6 + k * 5 + 4, none⟩ = false := (hf 4 _ rfl).2
  clear hf hb hO hS1
  go_wp2
  go_ret2
  have hS7 := hS6.set1 (j := 4) (u := .int .i64 st) (y := withSt a st) HA.out App.len (by omega) rfl
  have hF : Fr b6 (b6 + 1) w6 (w6.setCell ⟨b6, off6 + k * 5 + 4, none⟩ (.int .i64 st)) := (Fr.refl _ _ _).setCell ⟨by simp, by simp⟩ _
  have hs := hF.size
  exact RS2.of rfl (by rw [List.length_set]) rfl (hS7.mono (Nat.le_refl _) hs (Nat.le_refl _)) (by omega) (by rw [List.length_set]; exact hcap) (hB.trans (hF.below (by omega) (by omega)))
theorem IntC.off {w0 w w' : World} {base b0 lo hi : Nat} {A1 A2 A3 : Option Addr} {s r h : List Msg} (o : IntC w0 base A1 s A2 r A3 h) (hb : Below w0.heap.size w0 w) (hF : Fr lo hi w w') (hd : w0.heap.size ≤ lo) (h0 : b0 ≤ base) : IntC w' b0 A1 s A2 r A3 h := by
  obtain ⟨l1, h1, l2, h2, l3, h3, S1, S2, S3, B1, B2, B3, d⟩ := o
  have e1 := hb.size
  have e2 := hF.size
  exact ⟨l1, h1, l2, h2, l3, h3, (S1.below hb).fr hF (by omega), (S2.below hb).fr hF (by omega), (S3.below hb).fr hF (by omega), ⟨by omega, B1.2.1, by omega⟩, ⟨by omega, B2.2.1, by omega⟩, ⟨by omega, B3.2.1, by omega⟩, d⟩
theorem IntE.of_t {w5 w6 : World} {base a b q : Nat} {A1 A2 A3 A4 A5 : Option Addr} {f n : List App} {s r h : List Msg} (h1 : Apps w6 w5.heap.size w6.heap.size A1 f) (h2 : Apps w6 a b A2 n) (hc : IntC w5 q A3 s A4 r A5 h) (hb : Below w5.heap.size w5 w6) (k0 : base ≤ a) (k1 : a ≤ b) (k2 : b ≤ q) (k3 : q ≤ w5.heap.size) : IntE w6 base A1 f A2 n A3 s A4 r A5 h := by
  obtain ⟨l3, h3, l4, h4, l5, h5, S3, S4, S5, B3, B4, B5, e34, e35, e45⟩ := hc
  have := hb.size
  exact ⟨w5.heap.size, w6.heap.size, a, b, q, w5.heap.size, l3, h3, l4, h4, l5, h5, h1, h2, S3.below hb, S4.below hb, S5.below hb, ⟨by omega, by omega, by omega⟩, ⟨by omega, by omega, by omega⟩, ⟨by omega, by omega, by omega⟩, B3, B4, B5, by omega, by omega, by omega, e34, e35, e45⟩
theorem tel_if {f n : List App} {s r h : List Msg} {nm : ByteArray} {st : Int} (g : endsB f n s r h = true) : telT f n s r h nm st = if (chgT n nm st).2 = true then (if (sndT s r h nm (stT st)).2 = true then ((f, (chgT n nm st).1, (sndT s r h nm (stT st)).1.1, (sndT s r h nm (stT st)).1.2.1, (sndT s r h nm (stT st)).1.2.2), true) else enNo) else enNo := by
  unfold telT
  by_cases h1 : (chgT n nm st).2 = true <;> by_cases h2 : (sndT s r h nm (stT st)).2 = true <;> simp [g, h1, h2]
theorem tel_ifU {f n : List App} {s r h : List Msg} {nm : ByteArray} {st : Int} (g : endsB f n s r h = true) : telT f n s r h nm st = if (chgT n nm st).2 = true then (if (sndU s r h nm (stT st)).2 = true then ((f, (chgT n nm st).1, (sndU s r h nm (stT st)).1.1, (sndU s r h nm (stT st)).1.2.1, (sndU s r h nm (stT st)).1.2.2), true) else enNo) else enNo := by
  rw [tel_if g]
  by_cases h1 : (chgT n nm st).2 = true
  · rw [tel_snd g h1]
  · rw [if_neg h1, if_neg h1]
end Go.Proofs.YtjmjilkpckbpeaaGreatDoor

/- Ends in memory, and the law's own helpers over them. Conditions: at most 2^20 in each list. -/
import Derived.Test.YtpfopmlbnogilaaChan
import Derived.Test.YtpfopmlbnogilaaAppMk
import Derived.Test.YtpfopmlbnogilaaFlt
namespace Go.Proofs.Ytpfopmlbnogilaa
open Go.RowKit

/-- A box of values. -/
def BN (b : Nat) (vs : List Value) (X : World) : Prop := ∀ j v, vs[j]? = some v → X.cell? ⟨b, j, none⟩ = some v ∧ X.frozen? ⟨b, j, none⟩ = false
section
variable {b : Nat} {vs : List Value} {X X' : World}
theorem BN.same (a : BN b vs X) (e : X'.heap[b]? = X.heap[b]?) : BN b vs X' := fun j v h => ⟨(World.cell?_of_block (a := ⟨b, j, none⟩) e).trans (a j v h).1, (World.frozen?_of_block (a := ⟨b, j, none⟩) e).trans (a j v h).2⟩
theorem BN.lt (a : BN b vs X) (h : vs ≠ []) : b < X.heap.size := by
  cases vs with
  | nil => exact absurd rfl h
  | cons v l => exact World.block_lt_of_cell? _ _ (a 0 v rfl).1
theorem BN.upto {B : Nat} (a : BN b vs X) (hB : b < B) (hb : Below B X X') : BN b vs X' := a.same (hb.block b hB)
theorem BN.new (w : World) (cs : Array Value) (T : TypeId) (n : Nat) (hn : n = w.heap.size) : BN n cs.toList (w.alloc (.cells cs T)) := fun j v h => by
  subst hn
  refine ⟨?_, World.frozen?_alloc_at _ _ _ _ rfl⟩
  rw [World.cell?_alloc_at _ _ _ _ rfl]
  simpa using h
end
def cells5 (b : Nat) (v0 v1 v2 v3 v4 : Value) (X : World) : Prop := X.cell? ⟨b, 0, none⟩ = some v0 ∧ X.cell? ⟨b, 1, none⟩ = some v1 ∧ X.cell? ⟨b, 2, none⟩ = some v2 ∧ X.cell? ⟨b, 3, none⟩ = some v3 ∧ X.cell? ⟨b, 4, none⟩ = some v4
theorem cells5.new (w : World) (v0 v1 v2 v3 v4 : Value) (T : TypeId) (n : Nat) (hn : n = w.heap.size) : cells5 n v0 v1 v2 v3 v4 (w.alloc (.cells #[v0, v1, v2, v3, v4] T)) := by
  subst hn
  exact ⟨by simp, by simp, by simp, by simp, by simp⟩
theorem cells5.below {b : Nat} {v0 v1 v2 v3 v4 : Value} {X X' : World} (a : cells5 b v0 v1 v2 v3 v4 X) (hb : Below X.heap.size X X') : cells5 b v0 v1 v2 v3 v4 X' := ⟨keep hb a.1, keep hb a.2.1, keep hb a.2.2.1, keep hb a.2.2.2.1, keep hb a.2.2.2.2⟩
theorem cells5.lt {b : Nat} {v0 v1 v2 v3 v4 : Value} {X : World} (a : cells5 b v0 v1 v2 v3 v4 X) : b < X.heap.size := World.block_lt_of_cell? _ _ a.1
theorem cells5.alloc {b : Nat} {v0 v1 v2 v3 v4 : Value} {X : World} (a : cells5 b v0 v1 v2 v3 v4 X) (o : Obj) : cells5 b v0 v1 v2 v3 v4 (X.alloc o) := a.below ((Below.refl _ _).alloc (Nat.le_refl _) o)
theorem cells5.fr {b lo hi : Nat} {v0 v1 v2 v3 v4 : Value} {X X' : World} (a : cells5 b v0 v1 v2 v3 v4 X) (hF : Fr lo hi X X') (hd : b < lo ∨ hi ≤ b) : cells5 b v0 v1 v2 v3 v4 X' :=
  have e : ∀ o, X'.cell? ⟨b, o, none⟩ = X.cell? ⟨b, o, none⟩ := fun o => World.cell?_of_block (a := ⟨b, o, none⟩) (hF.block b a.lt (by omega))
  ⟨(e _).trans a.1, (e _).trans a.2.1, (e _).trans a.2.2.1, (e _).trans a.2.2.2.1, (e _).trans a.2.2.2.2⟩
theorem cells5.set5 {b : Nat} {u0 u1 u2 u3 u4 : Value} {X : World} (a : cells5 b u0 u1 u2 u3 u4 X) (v0 v1 v2 v3 v4 : Value) : cells5 b v0 v1 v2 v3 v4 (((((X.setCell ⟨b, 0, none⟩ v0).setCell ⟨b, 1, none⟩ v1).setCell ⟨b, 2, none⟩ v2).setCell ⟨b, 3, none⟩ v3).setCell ⟨b, 4, none⟩ v4) :=
  ⟨((World.cell?_setCell_other _ _ _ _ (by simp)).trans (((World.cell?_setCell_other _ _ _ _ (by simp)).trans (((World.cell?_setCell_other _ _ _ _ (by simp)).trans (((World.cell?_setCell_other _ _ _ _ (by simp)).trans (World.cell?_setCell_same _ _ _ (a.1))))))))), ((World.cell?_setCell_other _ _ _ _ (by simp)).trans (((World.cell?_setCell_other _ _ _ _ (by simp)).trans (((World.cell?_setCell_other _ _ _ _ (by simp)).trans (World.cell?_setCell_same _ _ _ (((World.cell?_setCell_other _ _ _ _ (by simp)).trans a.2.1)))))))), ((World.cell?_setCell_other _ _ _ _ (by simp)).trans (((World.cell?_setCell_other _ _ _ _ (by simp)).trans (World.cell?_setCell_same _ _ _ (((World.cell?_setCell_other _ _ _ _ (by simp)).trans ((World.cell?_setCell_other _ _ _ _ (by simp)).trans a.2.2.1))))))), ((World.cell?_setCell_other _ _ _ _ (by simp)).trans (World.cell?_setCell_same _ _ _ (((World.cell?_setCell_other _ _ _ _ (by simp)).trans ((World.cell?_setCell_other _ _ _ _ (by simp)).trans ((World.cell?_setCell_other _ _ _ _ (by simp)).trans a.2.2.2.1)))))), World.cell?_setCell_same _ _ _ (((World.cell?_setCell_other _ _ _ _ (by simp)).trans ((World.cell?_setCell_other _ _ _ _ (by simp)).trans ((World.cell?_setCell_other _ _ _ _ (by simp)).trans ((World.cell?_setCell_other _ _ _ _ (by simp)).trans a.2.2.2.2)))))⟩
set_option maxHeartbeats 2000000 in
theorem eqEnds_same (Af Af2 : Option Addr) (cf cf2 : Nat) (f : List App) (lof hif lof2 hif2 : Nat) (An An2 : Option Addr) (cn cn2 : Nat) (n : List App) (lon hin lon2 hin2 : Nat) (As As2 : Option Addr) (cs cs2 : Nat) (s : List Msg) (los his los2 his2 : Nat) (Ar Ar2 : Option Addr) (cr cr2 : Nat) (r : List Msg) (lor hir lor2 hir2 : Nat) (Ah Ah2 : Option Addr) (ch ch2 : Nat) (h : List Msg) (loh hih loh2 hih2 : Nat) (w : World) (hlf : f.length ≤ 1048576) (hSf : Apps w lof hif Af f) (hSf2 : Apps w lof2 hif2 Af2 f) (hln : n.length ≤ 1048576) (hSn : Apps w lon hin An n) (hSn2 : Apps w lon2 hin2 An2 n) (hls : s.length ≤ 1048576) (hSs : Msgs w los his As s) (hSs2 : Msgs w los2 his2 As2 s) (hlr : r.length ≤ 1048576) (hSr : Msgs w lor hir Ar r) (hSr2 : Msgs w lor2 hir2 Ar2 r) (hlh : h.length ≤ 1048576) (hSh : Msgs w loh hih Ah h) (hSh2 : Msgs w loh2 hih2 Ah2 h) :
    Calls Try.prog 43 #[.agg #[.slice Af f.length cf, .slice An n.length cn, .slice As s.length cs, .slice Ar r.length cr, .slice Ah h.length ch], .agg #[.slice Af2 f.length cf2, .slice An2 n.length cn2, .slice As2 s.length cs2, .slice Ar2 r.length cr2, .slice Ah2 h.length ch2]] w (RV w (.bool true)) := by
  have e1 : (w.alloc (.cells #[.slice Af f.length cf, .slice An n.length cn, .slice As s.length cs, .slice Ar r.length cr, .slice Ah h.length ch] 61)).heap.size = w.heap.size + 1 := by simp
  have hX := (cells5.new w (.slice Af f.length cf) (.slice An n.length cn) (.slice As s.length cs) (.slice Ar r.length cr) (.slice Ah h.length ch) 61 _ rfl).alloc (.cells #[.slice Af2 f.length cf2, .slice An2 n.length cn2, .slice As2 s.length cs2, .slice Ar2 r.length cr2, .slice Ah2 h.length ch2] 61)
  have hY := cells5.new (w.alloc (.cells #[.slice Af f.length cf, .slice An n.length cn, .slice As s.length cs, .slice Ar r.length cr, .slice Ah h.length ch] 61)) (.slice Af2 f.length cf2) (.slice An2 n.length cn2) (.slice As2 s.length cs2) (.slice Ar2 r.length cr2) (.slice Ah2 h.length ch2) 61 (w.heap.size + 1) e1.symm
  obtain ⟨b0, b1, b2, b3, b4⟩ := id hX
  obtain ⟨d0, d1, d2, d3, d4⟩ := id hY
  go_enter Try.func43, Try.ntmps43
  go_wp2_with fail
  refine (eqApplianceS_same Af Af2 cf cf2 _ _ _ _ f _ hlf ((hSf.alloc _).alloc _) ((hSf2.alloc _).alloc _)).mono ?_
  rintro e w1 ⟨rfl, hb⟩
  have hB : Below w.heap.size w w1 := Below.on' (by go_grown) hb
  replace hX := hX.below hb
  replace hY := hY.below hb
  clear b0 d0 b1 d1 b2 d2 b3 d3 b4 d4 hb
  obtain ⟨b0, b1, b2, b3, b4⟩ := id hX
  obtain ⟨d0, d1, d2, d3, d4⟩ := id hY
  have hx0 := hX.lt
  have hy0 := hY.lt
  go_wp2_with fail
  refine (eqApplianceS_same An An2 cn cn2 _ _ _ _ n _ hln (hSn.below hB) (hSn2.below hB)).mono ?_
  rintro e w2 ⟨rfl, hb⟩
  replace hB : Below w.heap.size w w2 := Below.on' hB hb
  replace hX := hX.below hb
  replace hY := hY.below hb
  clear b0 d0 b1 d1 b2 d2 b3 d3 b4 d4 hb
  obtain ⟨b0, b1, b2, b3, b4⟩ := id hX
  obtain ⟨d0, d1, d2, d3, d4⟩ := id hY
  have hx1 := hX.lt
  have hy1 := hY.lt
  go_wp2_with fail
  refine (eqChannel_same As As2 cs cs2 s _ _ _ _ Ar Ar2 cr cr2 r _ _ _ _ Ah Ah2 ch ch2 h _ _ _ _ _ hls (hSs.below hB) (hSs2.below hB) hlr (hSr.below hB) (hSr2.below hB) hlh (hSh.below hB) (hSh2.below hB)).mono ?_
  rintro e w3 ⟨rfl, hb⟩
  replace hB : Below w.heap.size w w3 := Below.on' hB hb
  replace hX := hX.below hb
  replace hY := hY.below hb
  clear b0 d0 b1 d1 b2 d2 b3 d3 b4 d4 hb
  obtain ⟨b0, b1, b2, b3, b4⟩ := id hX
  obtain ⟨d0, d1, d2, d3, d4⟩ := id hY
  have hx2 := hX.lt
  have hy2 := hY.lt
  go_wp2
  go_ret
  exact RV.mk rfl hB
set_option maxHeartbeats 2000000 in
theorem heldEnds_any (Af : Option Addr) (cf nf lof hif : Nat) (An : Option Addr) (cn nn lon hin : Nat) (As : Option Addr) (cs ns los his : Nat) (Ar : Option Addr) (cr nr lor hir : Nat) (Ah : Option Addr) (ch nh loh hih : Nat) (k : Int) (w : World) (hlf : nf ≤ 1048576) (hSf : Apps w lof hif Af (App.mkL k nf)) (hln : nn ≤ 1048576) (hSn : Apps w lon hin An (App.mkL (k + 5 * nf) nn)) (hls : ns ≤ 1048576) (hSs : Msgs w los his As (Msg.mkL (k + 5 * nf + 5 * nn) ns)) (hlr : nr ≤ 1048576) (hSr : Msgs w lor hir Ar (Msg.mkL (k + 5 * nf + 5 * nn + 3 * ns) nr)) (hlh : nh ≤ 1048576) (hSh : Msgs w loh hih Ah (Msg.mkL (k + 5 * nf + 5 * nn + 3 * ns + 3 * nr) nh)) (hk0 : 1 ≤ k) (hk1 : k ≤ 1000000) :
    Calls Try.prog 47 #[.agg #[.slice Af nf cf, .slice An nn cn, .slice As ns cs, .slice Ar nr cr, .slice Ah nh ch], .int .i64 k] w (RV w (.int .i64 (k + 5 * nf + 5 * nn + 3 * ns + 3 * nr + 3 * nh))) := by
  have hX := cells5.new w (.slice Af nf cf) (.slice An nn cn) (.slice As ns cs) (.slice Ar nr cr) (.slice Ah nh ch) 61 _ rfl
  obtain ⟨b0, b1, b2, b3, b4⟩ := id hX
  go_enter Try.func47, Try.ntmps47
  go_wp2_with fail
  refine (heldApplianceS_any Af cf _ _ nf k _ hlf (by omega) (by omega) (hSf.alloc _)).mono ?_
  rintro e w1 ⟨rfl, hb⟩
  have hB : Below w.heap.size w w1 := Below.on' (by go_grown) hb
  replace hX := hX.below hb
  clear b0 b1 b2 b3 b4 hb
  obtain ⟨b0, b1, b2, b3, b4⟩ := id hX
  have hx0 := hX.lt
  go_wp2_with fail
  refine (heldApplianceS_any An cn _ _ nn (k + 5 * nf) _ hln (by omega) (by omega) (hSn.below hB)).mono ?_
  rintro e w2 ⟨rfl, hb⟩
  replace hB : Below w.heap.size w w2 := Below.on' hB hb
  replace hX := hX.below hb
  clear b0 b1 b2 b3 b4 hb
  obtain ⟨b0, b1, b2, b3, b4⟩ := id hX
  have hx1 := hX.lt
  go_wp2_with fail
  refine (heldChannel_any As cs ns _ _ Ar cr nr _ _ Ah ch nh _ _ (k + 5 * nf + 5 * nn) _ hls (hSs.below hB) hlr (hSr.below hB) hlh (hSh.below hB) (by omega) (by omega)).mono ?_
  rintro e w3 ⟨rfl, hb⟩
  replace hB : Below w.heap.size w w3 := Below.on' hB hb
  replace hX := hX.below hb
  clear b0 b1 b2 b3 b4 hb
  obtain ⟨b0, b1, b2, b3, b4⟩ := id hX
  have hx2 := hX.lt
  go_wp2
  go_ret
  exact RV.mk rfl hB
theorem Fr.empty {lo hi : Nat} {w w' : World} (h : Fr 0 0 w w') : Fr lo hi w w' := ⟨h.os, h.tape, h.output, h.size, fun b hb _ => h.block b hb (by omega)⟩
set_option maxHeartbeats 4000000 in
theorem markEnds_nil (Af : Option Addr) (cf lof hif : Nat) (f : List App) (An : Option Addr) (cn lon hin : Nat) (n : List App) (k : Int) (w : World) (hlf : f.length ≤ 1048576) (hSf : Apps w lof hif Af f) (hln : n.length ≤ 1048576) (hSn : Apps w lon hin An n) (hk0 : 1 ≤ k) (hk1 : k ≤ 1000000) (lo hi : Nat) (df : lo ≤ lof ∧ lof ≤ hif ∧ hif ≤ hi) (dn : lo ≤ lon ∧ lon ≤ hin ∧ hin ≤ hi) (dz : hi ≤ w.heap.size) (dfn : hif ≤ lon ∨ hin ≤ lof) :
    Calls Try.prog 46 #[.agg #[.slice Af f.length cf, .slice An n.length cn, .slice none 0 0, .slice none 0 0, .slice none 0 0], .int .i64 k] w fun e w' => e = .returned (.int .i64 (k + 5 * f.length + 5 * n.length)) ∧ Apps w' lof hif Af (App.mkL k f.length) ∧ Apps w' lon hin An (App.mkL (k + 5 * f.length) n.length) ∧ Fr lo hi w w' := by
  have hX := cells5.new w (.slice Af f.length cf) (.slice An n.length cn) (.slice none 0 0) (.slice none 0 0) (.slice none 0 0) 61 _ rfl
  obtain ⟨b0, b1, b2, b3, b4⟩ := id hX
  have hFw : Fr lo hi w (w.alloc (.cells #[.slice Af f.length cf, .slice An n.length cn, .slice none 0 0, .slice none 0 0, .slice none 0 0] 61)) := (Fr.refl _ _ _).alloc _
  replace hSf := hSf.alloc (.cells #[.slice Af f.length cf, .slice An n.length cn, .slice none 0 0, .slice none 0 0, .slice none 0 0] 61)
  replace hSn := hSn.alloc (.cells #[.slice Af f.length cf, .slice An n.length cn, .slice none 0 0, .slice none 0 0, .slice none 0 0] 61)
  go_enter Try.func46, Try.ntmps46
  go_wp2_with fail
  refine (markApplianceS_any Af cf _ _ f k _ hlf (by omega) (by omega) hSf).mono ?_
  rintro e w1 ⟨rfl, hM, hF⟩
  replace hX := hX.fr hF (by omega)
  clear b0 b1 b2 b3 b4
  obtain ⟨b0, b1, b2, b3, b4⟩ := id hX
  replace hSf := hM
  replace hSn := hSn.fr hF (by omega)
  replace hFw := hFw.trans (hF.wide (by omega) (by omega))
  have hz0 := hFw.size
  have hk0 := hX.lt
  clear hM hF
  go_wp2_with fail
  refine (markApplianceS_any An cn _ _ n (k + 5 * f.length) _ hln (by omega) (by omega) hSn).mono ?_
  rintro e w2 ⟨rfl, hM, hF⟩
  replace hX := hX.fr hF (by omega)
  clear b0 b1 b2 b3 b4
  obtain ⟨b0, b1, b2, b3, b4⟩ := id hX
  replace hSn := hM
  replace hSf := hSf.fr hF (by omega)
  replace hFw := hFw.trans (hF.wide (by omega) (by omega))
  have hz1 := hFw.size
  have hk1 := hX.lt
  clear hM hF
  go_wp2_with fail
  refine (markChannel_any none 0 0 0 [] none 0 0 0 [] none 0 0 0 [] (k + 5 * f.length + 5 * n.length) _ (by simp) Sl.nil_ (by simp) Sl.nil_ (by simp) Sl.nil_ (by omega) (by omega) 0 0 (by omega) (by omega) (by omega) (by omega) (by omega) (by omega) (by omega)).mono ?_
  rintro e w3 ⟨rfl, _, _, _, hF⟩
  replace hSf := hSf.fr hF (by omega)
  replace hSn := hSn.fr hF (by omega)
  replace hFw := hFw.trans hF.empty
  go_wp2
  go_ret
  exact ⟨by simp, hSf, hSn, hFw⟩
def seT (l : List App) : (List App × List App) × Bool := if fleetB l = true then ((l, l), true) else (([], []), false)
theorem seT_len {l : List App} (hl : l.length ≤ 1048576) : (seT l).1.1.length ≤ 1048576 ∧ (seT l).1.2.length ≤ 1048576 := by
  unfold seT
  split <;> simp [hl]
/-- Ends without a message returned, and a bool. -/
def REB (w : World) (f n : List App) (B : Bool) (e : Ending) (w' : World) : Prop :=
  ∃ A1 c1 A2 c2 m, e = .returned (.tuple #[.agg #[.slice A1 f.length c1, .slice A2 n.length c2, .slice none 0 0, .slice none 0 0, .slice none 0 0], .bool B]) ∧ Apps w' w.heap.size m A1 f ∧ Apps w' m w'.heap.size A2 n ∧ w.heap.size ≤ m ∧ m ≤ w'.heap.size ∧ Below w.heap.size w w'
set_option maxRecDepth 100000 in
set_option maxHeartbeats 8000000 in
theorem StartEnds_impl (Al : Option Addr) (cl : Nat) (l : List App) (w : World) (hl : l.length ≤ 1048576) (hm : ∀ y ∈ l, y.nm.size ≤ 1048576) (hS : Apps w 0 w.heap.size Al l) :
    Calls Try.prog 42 #[.slice Al l.length cl] w (REB w (seT l).1.1 (seT l).1.2 (seT l).2) := by
  obtain ⟨i0, hi0, hz0, hz1, hz2⟩ := info_parts App.info
  generalize hT : seT l = t
  replace hT := Lib.hid hT
  have hX := cells5.new w (.slice none 0 0) (.slice none 0 0) (.slice none 0 0) (.slice none 0 0) (.slice none 0 0) 61 _ rfl
  have hFz : ∀ j, j < 5 → (w.alloc (.cells #[.slice none 0 0, .slice none 0 0, .slice none 0 0, .slice none 0 0, .slice none 0 0] 61)).frozen? ⟨w.heap.size, j, none⟩ = false := fun j _ => World.frozen?_alloc_at _ _ _ _ rfl
  go_enter Try.func42, Try.ntmps42
  go_wp2_with fail
  refine (isFleet_any Al cl l _ hl hm (hS.alloc _).all).mono ?_
  rintro e w1 ⟨rfl, hb⟩
  have hB : Below w.heap.size w w1 := Below.on' (by go_grown) hb
  have hlt0 := hX.lt
  replace hX := hX.below hb
  have hfz : ∀ j, j < 5 → w1.frozen? ⟨w.heap.size, j, none⟩ = false := fun j hj => (hb.frozen (p := ⟨w.heap.size, j, none⟩) hlt0).trans (hFz j hj)
  clear hb hFz hlt0
  have hlt := hX.lt
  obtain ⟨b0, b1, b2, b3, b4⟩ := id hX
  have f0 := hfz 0 (by omega)
  have f1 := hfz 1 (by omega)
  have f2 := hfz 2 (by omega)
  have f3 := hfz 3 (by omega)
  have f4 := hfz 4 (by omega)
  by_cases g : fleetB l = true
  rotate_left
  · have g' : fleetB l = false := by simpa using g
    obtain rfl : (([], []), false) = t := by rw [← hT.out, seT, if_neg g]
    rw [g']
    have hF : Fr w.heap.size (w.heap.size + 1) w1 (((((w1.setCell ⟨w.heap.size, 0, none⟩ (.slice none 0 0)).setCell ⟨w.heap.size, 1, none⟩ (.slice none 0 0)).setCell ⟨w.heap.size, 2, none⟩ (.slice none 0 0)).setCell ⟨w.heap.size, 3, none⟩ (.slice none 0 0)).setCell ⟨w.heap.size, 4, none⟩ (.slice none 0 0)) := (((((Fr.refl _ _ _).setCell ⟨by simp, by simp⟩ _).setCell ⟨by simp, by simp⟩ _).setCell ⟨by simp, by simp⟩ _).setCell ⟨by simp, by simp⟩ _).setCell ⟨by simp, by simp⟩ _
    have hB' := hB.trans (hF.below (B := w.heap.size) (by omega) (by have := hB.size; omega))
    obtain ⟨x0, x1, x2, x3, x4⟩ := hX.set5 (.slice none 0 0) (.slice none 0 0) (.slice none 0 0) (.slice none 0 0) (.slice none 0 0)
    go_wp2
    refine bodyPost_ret (by simp [results, Try.results42, go_sem, x0, x1, x2, x3, x4]; try rfl) rfl ?_
    exact ⟨none, 0, none, 0, w.heap.size, rfl, Sl.nil_, Sl.nil_, Nat.le_refl _, hB'.size, hB'⟩
  rw [g]
  obtain rfl : ((l, l), true) = t := by rw [← hT.out, seT, if_pos g]
  clear hT g
  go_wp2_with fail
  refine (App.Clone_any Al cl l _ hl (hS.below hB).all).mono ?_
  rintro e w2 ⟨A1, c1, rfl, hO1, hb1⟩
  have hB2 := Below.on' hB hb1
  replace hX := hX.below hb1
  go_wp2_with fail
  refine (App.Clone_any Al cl l _ hl (hS.below hB2).all).mono ?_
  rintro e w3 ⟨A2, c2, rfl, hO2, hb2⟩
  replace hB := Below.on' hB2 hb2
  replace hX := hX.below hb2
  have hs1 := hb1.size
  have hs2 := hb2.size
  have hlt3 := hX.lt
  replace hfz : ∀ j, j < 5 → w3.frozen? ⟨w.heap.size, j, none⟩ = false := fun j hj => ((hb2.frozen (p := ⟨w.heap.size, j, none⟩) (by simp only; omega)).trans (hb1.frozen (p := ⟨w.heap.size, j, none⟩) hlt)).trans (hfz j hj)
  have S1 := ((hO1.sl App.len).below hb2).mono (lo' := w1.heap.size) (hi' := w2.heap.size) (Nat.le_refl _) (Nat.le_refl _) hs2
  have S2 := hO2.sl App.len
  clear b0 b1 b2 b3 b4 f0 f1 f2 f3 f4 hO1 hO2
  obtain ⟨b0, b1, b2, b3, b4⟩ := id hX
  have f0 := hfz 0 (by omega)
  have f1 := hfz 1 (by omega)
  have f2 := hfz 2 (by omega)
  have f3 := hfz 3 (by omega)
  have f4 := hfz 4 (by omega)
  have hF : Fr w.heap.size (w.heap.size + 1) w3 (((((w3.setCell ⟨w.heap.size, 0, none⟩ (.slice A1 l.length c1)).setCell ⟨w.heap.size, 1, none⟩ (.slice A2 l.length c2)).setCell ⟨w.heap.size, 2, none⟩ (.slice none 0 0)).setCell ⟨w.heap.size, 3, none⟩ (.slice none 0 0)).setCell ⟨w.heap.size, 4, none⟩ (.slice none 0 0)) := (((((Fr.refl _ _ _).setCell ⟨by simp, by simp⟩ _).setCell ⟨by simp, by simp⟩ _).setCell ⟨by simp, by simp⟩ _).setCell ⟨by simp, by simp⟩ _).setCell ⟨by simp, by simp⟩ _
  have hB' := hB.trans (hF.below (B := w.heap.size) (by omega) (by have := hB.size; omega))
  obtain ⟨x0, x1, x2, x3, x4⟩ := hX.set5 (.slice A1 l.length c1) (.slice A2 l.length c2) (.slice none 0 0) (.slice none 0 0) (.slice none 0 0)
  go_wp2
  refine bodyPost_ret (by simp [results, Try.results42, go_sem, x0, x1, x2, x3, x4]; try rfl) rfl ?_
  exact ⟨A1, c1, A2, c2, w2.heap.size, rfl, (S1.fr hF (by omega)).mono (by omega) (Nat.le_refl _) (by have := hF.size; omega), (S2.fr hF (by omega)).mono (Nat.le_refl _) hF.size (Nat.le_refl _), by omega, by have := hF.size; omega, hB'⟩
set_option maxRecDepth 100000 in
set_option maxHeartbeats 8000000 in
theorem StartEnds_spec (Al : Option Addr) (cl : Nat) (l : List App) (w : World) (hl : l.length ≤ 1048576) (hm : ∀ y ∈ l, y.nm.size ≤ 1048576) (hS : Apps w 0 w.heap.size Al l) :
    Calls Try.prog 40 #[.slice Al l.length cl] w (REB w (seT l).1.1 (seT l).1.2 (seT l).2) := by
  obtain ⟨i0, hi0, hz0, hz1, hz2⟩ := info_parts App.info
  generalize hT : seT l = t
  replace hT := Lib.hid hT
  have hX := cells5.new w (.slice none 0 0) (.slice none 0 0) (.slice none 0 0) (.slice none 0 0) (.slice none 0 0) 61 _ rfl
  have hFz : ∀ j, j < 5 → (w.alloc (.cells #[.slice none 0 0, .slice none 0 0, .slice none 0 0, .slice none 0 0, .slice none 0 0] 61)).frozen? ⟨w.heap.size, j, none⟩ = false := fun j _ => World.frozen?_alloc_at _ _ _ _ rfl
  go_enter Try.func40, Try.ntmps40
  go_wp2_with fail
  refine (apFleet_any Al cl l _ hl hm (hS.alloc _).all).mono ?_
  rintro e w1 ⟨rfl, hb⟩
  have hB : Below w.heap.size w w1 := Below.on' (by go_grown) hb
  have hlt0 := hX.lt
  replace hX := hX.below hb
  have hfz : ∀ j, j < 5 → w1.frozen? ⟨w.heap.size, j, none⟩ = false := fun j hj => (hb.frozen (p := ⟨w.heap.size, j, none⟩) hlt0).trans (hFz j hj)
  clear hb hFz hlt0
  have hlt := hX.lt
  obtain ⟨b0, b1, b2, b3, b4⟩ := id hX
  have f0 := hfz 0 (by omega)
  have f1 := hfz 1 (by omega)
  have f2 := hfz 2 (by omega)
  have f3 := hfz 3 (by omega)
  have f4 := hfz 4 (by omega)
  by_cases g : fleetB l = true
  rotate_left
  · have g' : fleetB l = false := by simpa using g
    obtain rfl : (([], []), false) = t := by rw [← hT.out, seT, if_neg g]
    rw [g']
    have hF : Fr w.heap.size (w.heap.size + 1) w1 (((((w1.setCell ⟨w.heap.size, 0, none⟩ (.slice none 0 0)).setCell ⟨w.heap.size, 1, none⟩ (.slice none 0 0)).setCell ⟨w.heap.size, 2, none⟩ (.slice none 0 0)).setCell ⟨w.heap.size, 3, none⟩ (.slice none 0 0)).setCell ⟨w.heap.size, 4, none⟩ (.slice none 0 0)) := (((((Fr.refl _ _ _).setCell ⟨by simp, by simp⟩ _).setCell ⟨by simp, by simp⟩ _).setCell ⟨by simp, by simp⟩ _).setCell ⟨by simp, by simp⟩ _).setCell ⟨by simp, by simp⟩ _
    have hB' := hB.trans (hF.below (B := w.heap.size) (by omega) (by have := hB.size; omega))
    obtain ⟨x0, x1, x2, x3, x4⟩ := hX.set5 (.slice none 0 0) (.slice none 0 0) (.slice none 0 0) (.slice none 0 0) (.slice none 0 0)
    go_wp2
    refine bodyPost_ret (by simp [results, Try.results40, go_sem, x0, x1, x2, x3, x4]; try rfl) rfl ?_
    exact ⟨none, 0, none, 0, w.heap.size, rfl, Sl.nil_, Sl.nil_, Nat.le_refl _, hB'.size, hB'⟩
  rw [g]
  obtain rfl : ((l, l), true) = t := by rw [← hT.out, seT, if_pos g]
  clear hT g
  go_wp2_with (first
    | (at_builtin; refine wpList_append_all _ rfl (.tmp 8) (.tmp 9) _ rfl i0 _ _ Try.underlying59 hi0 hz0 hz1 hz2 rfl (by omega) App.len App.one (Own.empty w1 (Nat.le_refl _)) ((hS.below hB).alloc _) rfl rfl (by unfold maxLen; first | omega | (simp; omega)) (by first | omega | (simp; omega)) (by first | exact Nat.le_refl _ | (simp; done) | omega) ?_; intro A1 c1 v2 L1 hL1 hO1 hb1; have hb1' : Below w1.heap.size w1 v2 := ((Below.refl _ _).alloc (Nat.le_refl _) _).trans hb1; have hB2 := hB.trans (hb1'.mono hB.size))
    | (at_builtin; refine wpList_append_all _ rfl (.tmp 11) (.tmp 12) _ rfl i0 _ _ Try.underlying59 hi0 hz0 hz1 hz2 rfl (by omega) App.len App.one (Own.empty v2 (Nat.le_refl _)) ((hS.below hB2).alloc _) rfl rfl (by unfold maxLen; first | omega | (simp; omega)) (by first | omega | (simp; omega)) (by first | exact Nat.le_refl _ | (simp; done) | omega) ?_; intro A2 c2 v3 L2 hL2 hO2 hb2; have hb2' : Below v2.heap.size v2 v3 := ((Below.refl _ _).alloc (Nat.le_refl _) _).trans hb2; have hB3 := hB2.trans (hb2'.mono hB2.size); have hs1 : w1.heap.size ≤ v2.heap.size := hb1'.size; have hs2 := hb2'.size; have hX3 := (hX.below hb1').below hb2'; have hfz3 : ∀ j, j < 5 → v3.frozen? ⟨w.heap.size, j, none⟩ = false := fun j hj => ((hb2'.frozen (p := ⟨w.heap.size, j, none⟩) (by simp only; omega)).trans (hb1'.frozen (p := ⟨w.heap.size, j, none⟩) hlt)).trans (hfz j hj); have S1 := ((hO1.sl App.len).below hb2').mono (lo' := w1.heap.size) (hi' := v2.heap.size) (Nat.le_refl _) (Nat.le_refl _) hs2; have S2 := hO2.sl App.len; clear b0 b1 b2 b3 b4 f0 f1 f2 f3 f4 hO1 hO2; obtain ⟨b0, b1, b2, b3, b4⟩ := id hX3; have f0 := hfz3 0 (by omega); have f1 := hfz3 1 (by omega); have f2 := hfz3 2 (by omega); have f3 := hfz3 3 (by omega); have f4 := hfz3 4 (by omega)))
  obtain rfl : L1 = l := hL1.out
  obtain rfl : L2 = L1 := hL2.out
  replace hB := hB3
  replace hX := hX3
  have hF : Fr w.heap.size (w.heap.size + 1) v3 (((((v3.setCell ⟨w.heap.size, 0, none⟩ (.slice A1 L2.length c1)).setCell ⟨w.heap.size, 1, none⟩ (.slice A2 L2.length c2)).setCell ⟨w.heap.size, 2, none⟩ (.slice none 0 0)).setCell ⟨w.heap.size, 3, none⟩ (.slice none 0 0)).setCell ⟨w.heap.size, 4, none⟩ (.slice none 0 0)) := (((((Fr.refl _ _ _).setCell ⟨by simp, by simp⟩ _).setCell ⟨by simp, by simp⟩ _).setCell ⟨by simp, by simp⟩ _).setCell ⟨by simp, by simp⟩ _).setCell ⟨by simp, by simp⟩ _
  have hB' := hB.trans (hF.below (B := w.heap.size) (by omega) (by have := hB.size; omega))
  obtain ⟨x0, x1, x2, x3, x4⟩ := hX.set5 (.slice A1 L2.length c1) (.slice A2 L2.length c2) (.slice none 0 0) (.slice none 0 0) (.slice none 0 0)
  refine bodyPost_ret (by simp [results, Try.results40, go_sem, x0, x1, x2, x3, x4]; try rfl) rfl ?_
  exact ⟨A1, c1, A2, c2, v2.heap.size, rfl, (S1.fr hF (by omega)).mono (by omega) (Nat.le_refl _) (by have := hF.size; omega), (S2.fr hF (by omega)).mono (Nat.le_refl _) hF.size (Nat.le_refl _), by omega, by have := hF.size; omega, hB'⟩
end Go.Proofs.Ytpfopmlbnogilaa

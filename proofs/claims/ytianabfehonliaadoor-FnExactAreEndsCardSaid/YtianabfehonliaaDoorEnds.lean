/- Ends in memory, and the law's own helpers over them. Conditions: at most 2^20 in each list. -/
import Derived.Test.YtianabfehonliaaDoorChan
import Derived.Test.YtianabfehonliaaDoorAppMk
import Derived.Test.YtianabfehonliaaDoorFlt
namespace Go.Proofs.YtianabfehonliaaDoor
open Go.RowKit

/-- A box of values. -/
def BN (b : Nat) (vs : List Value) (X : World) : Prop := ∀ j v, vs[j]? = some v → X.cell? ⟨b, j, none⟩ = some v ∧ X.frozen? ⟨b, j, none⟩ = false
section
variable {b : Nat} {vs : List Value} {X X' : World}
theorem BN.same (a : BN b vs X) (e : X'.heap[b]? = X.heap[b]?) : BN b vs X' := fun j v h => ⟨(World.cell?_of_block (a := ⟨b, j, none⟩) e).trans (a j v h).1, (World.frozen?_of_block (a := ⟨b, j, none⟩) e).trans (a j v h).2⟩
theorem BN.lt (a : BN b vs X) (h : vs ≠ []) : b < X.heap.size := by
  cases vs with
  | nil => exact absurd rfl h
  | cons v l => exact World.block_lt_of_cell? _ _ (a 0 v rfl).1
theorem BN.upto {B : Nat} (a : BN b vs X) (hB : b < B) (hb : Below B X X') : BN b vs X' := a.same (hb.block b hB)
theorem BN.new (w : World) (cs : Array Value) (T : TypeId) (n : Nat) (hn : n = w.heap.size) : BN n cs.toList (w.alloc (.cells cs T)) := fun j v h => by
  subst hn
  refine ⟨?_, World.frozen?_alloc_at _ _ _ _ rfl⟩
  rw [World.cell?_alloc_at _ _ _ _ rfl]
  simpa using h
end
def cells5 (b : Nat) (v0 v1 v2 v3 v4 : Value) (X : World) : Prop := X.cell? ⟨b, 0, none⟩ = some v0 ∧ X.cell? ⟨b, 1, none⟩ = some v1 ∧ X.cell? ⟨b, 2, none⟩ = some v2 ∧ X.cell? ⟨b, 3, none⟩ = some v3 ∧ X.cell? ⟨b, 4, none⟩ = some v4
theorem cells5.new (w : World) (v0 v1 v2 v3 v4 : Value) (T : TypeId) (n : Nat) (hn : n = w.heap.size) : cells5 n v0 v1 v2 v3 v4 (w.alloc (.cells #[v0, v1, v2, v3, v4] T)) := by
  subst hn
  exact ⟨by simp, by simp, by simp, by simp, by simp⟩
theorem cells5.below {b : Nat} {v0 v1 v2 v3 v4 : Value} {X X' : World} (a : cells5 b v0 v1 v2 v3 v4 X) (hb : Below X.heap.size X X') : cells5 b v0 v1 v2 v3 v4 X' := ⟨keep hb a.1, keep hb a.2.1, keep hb a.2.2.1, keep hb a.2.2.2.1, keep hb a.2.2.2.2⟩
theorem cells5.lt {b : Nat} {v0 v1 v2 v3 v4 : Value} {X : World} (a : cells5 b v0 v1 v2 v3 v4 X) : b < X.heap.size := World.block_lt_of_cell? _ _ a.1
theorem cells5.alloc {b : Nat} {v0 v1 v2 v3 v4 : Value} {X : World} (a : cells5 b v0 v1 v2 v3 v4 X) (o : Obj) : cells5 b v0 v1 v2 v3 v4 (X.alloc o) := a.below ((Below.refl _ _).alloc (Nat.le_refl _) o)
theorem cells5.fr {b lo hi : Nat} {v0 v1 v2 v3 v4 : Value} {X X' : World} (a : cells5 b v0 v1 v2 v3 v4 X) (hF : Fr lo hi X X') (hd : b < lo ∨ hi ≤ b) : cells5 b v0 v1 v2 v3 v4 X' :=
  have e : ∀ o, X'.cell? ⟨b, o, none⟩ = X.cell? ⟨b, o, none⟩ := fun o => World.cell?_of_block (a := ⟨b, o, none⟩) (hF.block b a.lt (by omega))
  ⟨(e _).trans a.1, (e _).trans a.2.1, (e _).trans a.2.2.1, (e _).trans a.2.2.2.1, (e _).trans a.2.2.2.2⟩
theorem cells5.set5 {b : Nat} {u0 u1 u2 u3 u4 : Value} {X : World} (a : cells5 b u0 u1 u2 u3 u4 X) (v0 v1 v2 v3 v4 : Value) : cells5 b v0 v1 v2 v3 v4 (((((X.setCell ⟨b, 0, none⟩ v0).setCell ⟨b, 1, none⟩ v1).setCell ⟨b, 2, none⟩ v2).setCell ⟨b, 3, none⟩ v3).setCell ⟨b, 4, none⟩ v4) :=
  ⟨((World.cell?_setCell_other _ _ _ _ (by simp)).trans (((World.cell?_setCell_other _ _ _ _ (by simp)).trans (((World.cell?_setCell_other _ _ _ _ (by simp)).trans (((World.cell?_setCell_other _ _ _ _ (by simp)).trans (World.cell?_setCell_same _ _ _ (a.1))))))))), ((World.cell?_setCell_other _ _ _ _ (by simp)).trans (((World.cell?_setCell_other _ _ _ _ (by simp)).trans (((World.cell?_setCell_other _ _ _ _ (by simp)).trans (World.cell?_setCell_same _ _ _ (((World.cell?_setCell_other _ _ _ _ (by simp)).trans a.2.1)))))))), ((World.cell?_setCell_other _ _ _ _ (by simp)).trans (((World.cell?_setCell_other _ _ _ _ (by simp)).trans (World.cell?_setCell_same _ _ _ (((World.cell?_setCell_other _ _ _ _ (by simp)).trans ((World.cell?_setCell_other _ _ _ _ (by simp)).trans a.2.2.1))))))), ((World.cell?_setCell_other _ _ _ _ (by simp)).trans (World.cell?_setCell_same _ _ _ (((World.cell?_setCell_other _ _ _ _ (by simp)).trans ((World.cell?_setCell_other _ _ _ _ (by simp)).trans ((World.cell?_setCell_other _ _ _ _ (by simp)).trans a.2.2.2.1)))))), World.cell?_setCell_same _ _ _ (((World.cell?_setCell_other _ _ _ _ (by simp)).trans ((World.cell?_setCell_other _ _ _ _ (by simp)).trans ((World.cell?_setCell_other _ _ _ _ (by simp)).trans ((World.cell?_setCell_other _ _ _ _ (by simp)).trans a.2.2.2.2)))))⟩
set_option maxHeartbeats 2000000 in
theorem eqEnds_same (Af Af2 : Option Addr) (cf cf2 : Nat) (f : List App) (lof hif lof2 hif2 : Nat) (An An2 : Option Addr) (cn cn2 : Nat) (n : List App) (lon hin lon2 hin2 : Nat) (As As2 : Option Addr) (cs cs2 : Nat) (s : List Msg) (los his los2 his2 : Nat) (Ar Ar2 : Option Addr) (cr cr2 : Nat) (r : List Msg) (lor hir lor2 hir2 : Nat) (Ah Ah2 : Option Addr) (ch ch2 : Nat) (h : List Msg) (loh hih loh2 hih2 : Nat) (w : World) (hlf : f.length ≤ 1048576) (hSf : Apps w lof hif Af f) (hSf2 : Apps w lof2 hif2 Af2 f) (hln : n.length ≤ 1048576) (hSn : Apps w lon hin An n) (hSn2 : Apps w lon2 hin2 An2 n) (hls : s.length ≤ 1048576) (hSs : Msgs w los his As s) (hSs2 : Msgs w los2 his2 As2 s) (hlr : r.length ≤ 1048576) (hSr : Msgs w lor hir Ar r) (hSr2 : Msgs w lor2 hir2 Ar2 r) (hlh : h.length ≤ 1048576) (hSh : Msgs w loh hih Ah h) (hSh2 : Msgs w loh2 hih2 Ah2 h) :
    Calls Tryd.prog 12 #[.agg #[.slice Af f.length cf, .slice An n.length cn, .slice As s.length cs, .slice Ar r.length cr, .slice Ah h.length ch], .agg #[.slice Af2 f.length cf2, .slice An2 n.length cn2, .slice As2 s.length cs2, .slice Ar2 r.length cr2, .slice Ah2 h.length ch2]] w (RV w (.bool true)) := by
  have e1 : (w.alloc (.cells #[.slice Af f.length cf, .slice An n.length cn, .slice As s.length cs, .slice Ar r.length cr, .slice Ah h.length ch] 41)).heap.size = w.heap.size + 1 := by simp
  have hX := (cells5.new w (.slice Af f.length cf) (.slice An n.length cn) (.slice As s.length cs) (.slice Ar r.length cr) (.slice Ah h.length ch) 41 _ rfl).alloc (.cells #[.slice Af2 f.length cf2, .slice An2 n.length cn2, .slice As2 s.length cs2, .slice Ar2 r.length cr2, .slice Ah2 h.length ch2] 41)
  have hY := cells5.new (w.alloc (.cells #[.slice Af f.length cf, .slice An n.length cn, .slice As s.length cs, .slice Ar r.length cr, .slice Ah h.length ch] 41)) (.slice Af2 f.length cf2) (.slice An2 n.length cn2) (.slice As2 s.length cs2) (.slice Ar2 r.length cr2) (.slice Ah2 h.length ch2) 41 (w.heap.size + 1) e1.symm
  obtain ⟨b0, b1, b2, b3, b4⟩ := id hX
  obtain ⟨d0, d1, d2, d3, d4⟩ := id hY
  go_enter Tryd.func12, Tryd.ntmps12
  go_wp2_with fail
  refine (eqApplianceS_same Af Af2 cf cf2 _ _ _ _ f _ hlf ((hSf.alloc _).alloc _) ((hSf2.alloc _).alloc _)).mono ?_
  rintro e w1 ⟨rfl, hb⟩
  have hB : Below w.heap.size w w1 := Below.on' (by go_grown) hb
  replace hX := hX.below hb
  replace hY := hY.below hb
  clear b0 d0 b1 d1 b2 d2 b3 d3 b4 d4 hb
  obtain ⟨b0, b1, b2, b3, b4⟩ := id hX
  obtain ⟨d0, d1, d2, d3, d4⟩ := id hY
  have hx0 := hX.lt
  have hy0 := hY.lt
  go_wp2_with fail
  refine (eqApplianceS_same An An2 cn cn2 _ _ _ _ n _ hln (hSn.below hB) (hSn2.below hB)).mono ?_
  rintro e w2 ⟨rfl, hb⟩
  replace hB : Below w.heap.size w w2 := Below.on' hB hb
  replace hX := hX.below hb
  replace hY := hY.below hb
  clear b0 d0 b1 d1 b2 d2 b3 d3 b4 d4 hb
  obtain ⟨b0, b1, b2, b3, b4⟩ := id hX
  obtain ⟨d0, d1, d2, d3, d4⟩ := id hY
  have hx1 := hX.lt
  have hy1 := hY.lt
  go_wp2_with fail
  refine (eqChannel_same As As2 cs cs2 s _ _ _ _ Ar Ar2 cr cr2 r _ _ _ _ Ah Ah2 ch ch2 h _ _ _ _ _ hls (hSs.below hB) (hSs2.below hB) hlr (hSr.below hB) (hSr2.below hB) hlh (hSh.below hB) (hSh2.below hB)).mono ?_
  rintro e w3 ⟨rfl, hb⟩
  replace hB : Below w.heap.size w w3 := Below.on' hB hb
  replace hX := hX.below hb
  replace hY := hY.below hb
  clear b0 d0 b1 d1 b2 d2 b3 d3 b4 d4 hb
  obtain ⟨b0, b1, b2, b3, b4⟩ := id hX
  obtain ⟨d0, d1, d2, d3, d4⟩ := id hY
  have hx2 := hX.lt
  have hy2 := hY.lt
  go_wp2
  go_ret
  exact RV.mk rfl hB
theorem Fr.empty {lo hi : Nat} {w w' : World} (h : Fr 0 0 w w') : Fr lo hi w w' := ⟨h.os, h.tape, h.output, h.size, fun b hb _ => h.block b hb (by omega)⟩
def seT (l : List App) : (List App × List App) × Bool := if fleetB l = true then ((l, l), true) else (([], []), false)
theorem seT_len {l : List App} (hl : l.length ≤ 1048576) : (seT l).1.1.length ≤ 1048576 ∧ (seT l).1.2.length ≤ 1048576 := by
  unfold seT
  split <;> simp [hl]
/-- Ends without a message returned, and a bool. -/
def REB (w : World) (f n : List App) (B : Bool) (e : Ending) (w' : World) : Prop :=
  ∃ A1 c1 A2 c2 m, e = .returned (.tuple #[.agg #[.slice A1 f.length c1, .slice A2 n.length c2, .slice none 0 0, .slice none 0 0, .slice none 0 0], .bool B]) ∧ Apps w' w.heap.size m A1 f ∧ Apps w' m w'.heap.size A2 n ∧ w.heap.size ≤ m ∧ m ≤ w'.heap.size ∧ Below w.heap.size w w'
end Go.Proofs.YtianabfehonliaaDoor

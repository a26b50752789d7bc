/- Several texts of this seat, one behind the other. Channels in memory, and the law's own helpers over them. Conditions: lists and texts of at most 2^20; marks in 1 .. 50000000. Channels that come in as arguments, opened. No conditions. Searching channels. Conditions: at most 2^20 messages. Valid channels, as the reference tests them. Conditions: at most 2^20 messages in each list, texts of at most 2^20. -/
import Derived.Test.YtianabfehonliaaGreatDoorLB
import Derived.Test.YtianabfehonliaaGreatDoorLA
import Derived.Test.YtianabfehonliaaGreatDoorLN
namespace Go.Proofs.YtianabfehonliaaGreatDoor
open Go.RowKit

def okM (l : List Msg) : Prop := l.length ≤ 1048576 ∧ ∀ x ∈ l, x.f.size ≤ 1048576 ∧ x.b.size ≤ 1048576
theorem cells3 {w : World} {a b c : Value} {T : TypeId} : (w.alloc (.cells #[a, b, c] T)).cell? ⟨w.heap.size, 0, none⟩ = some a ∧ (w.alloc (.cells #[a, b, c] T)).cell? ⟨w.heap.size, 1, none⟩ = some b ∧ (w.alloc (.cells #[a, b, c] T)).cell? ⟨w.heap.size, 2, none⟩ = some c := ⟨by simp, by simp, by simp⟩
set_option maxHeartbeats 1000000 in
theorem szChannel_any (As : Option Addr) (cs : Nat) (s : List Msg) (Ar : Option Addr) (cr : Nat) (r : List Msg) (Ah : Option Addr) (ch : Nat) (h : List Msg) (left : Int) (w : World) (hls : s.length ≤ maxLen) (hms : ∀ y ∈ s, y.f.size ≤ maxLen ∧ y.b.size ≤ maxLen) (hSs : Msgs w 0 w.heap.size As s) (hlr : r.length ≤ maxLen) (hmr : ∀ y ∈ r, y.f.size ≤ maxLen ∧ y.b.size ≤ maxLen) (hSr : Msgs w 0 w.heap.size Ar r) (hlh : h.length ≤ maxLen) (hmh : ∀ y ∈ h, y.f.size ≤ maxLen ∧ y.b.size ≤ maxLen) (hSh : Msgs w 0 w.heap.size Ah h) (h0 : 0 ≤ left) (h1 : left ≤ 1048576) :
    Calls Tryz.prog 80 #[.agg #[.slice As s.length cs, .slice Ar r.length cr, .slice Ah h.length ch], .int .i64 left] w fun e w' => ∃ q : Int, e = .returned (.int .i64 q) ∧ q ≤ left ∧ (0 ≤ q → okM s ∧ okM r ∧ okM h) ∧ Below w.heap.size w w' := by
  obtain ⟨b0, b1, b2⟩ := cells3 (w := w) (a := .slice As s.length cs) (b := .slice Ar r.length cr) (c := .slice Ah h.length ch) (T := 25)
  go_enter Tryz.func80, Tryz.ntmps80
  go_wp2_with fail
  refine (szMessageS_any As cs s left _ hls hms (hSs.alloc _).all (by omega) (by omega)).mono ?_
  rintro e w1 ⟨qs, rfl, hqs, hrs, hb⟩
  replace b0 : w1.cell? ⟨w.heap.size, 0, none⟩ = some (.slice As s.length cs) := keep hb b0
  replace b1 : w1.cell? ⟨w.heap.size, 1, none⟩ = some (.slice Ar r.length cr) := keep hb b1
  replace b2 : w1.cell? ⟨w.heap.size, 2, none⟩ = some (.slice Ah h.length ch) := keep hb b2
  have hB1 : Below w.heap.size w w1 := Below.on' (by go_grown) hb
  have z1 := hB1.size
  clear hb
  by_cases ns : qs < 0
  · go_wp2
    go_ret
    exact ⟨-1, rfl, by omega, by omega, hB1⟩
  go_wp2_with fail
  refine (szMessageS_any Ar cr r qs _ hlr hmr (hSr.below hB1).all (by omega) (by omega)).mono ?_
  rintro e w2 ⟨qr, rfl, hqr, hrr, hb⟩
  replace b0 : w2.cell? ⟨w.heap.size, 0, none⟩ = some (.slice As s.length cs) := keep hb b0
  replace b1 : w2.cell? ⟨w.heap.size, 1, none⟩ = some (.slice Ar r.length cr) := keep hb b1
  replace b2 : w2.cell? ⟨w.heap.size, 2, none⟩ = some (.slice Ah h.length ch) := keep hb b2
  have hB2 : Below w.heap.size w w2 := Below.on' hB1 hb
  have z2 := hb.size
  clear hb
  by_cases nr : qr < 0
  · go_wp2
    go_ret
    exact ⟨-1, rfl, by omega, by omega, hB2⟩
  go_wp2_with fail
  refine (szMessageS_any Ah ch h qr _ hlh hmh (hSh.below hB2).all (by omega) (by omega)).mono ?_
  rintro e w3 ⟨qh, rfl, hqh, hrh, hb⟩
  replace b0 : w3.cell? ⟨w.heap.size, 0, none⟩ = some (.slice As s.length cs) := keep hb b0
  replace b1 : w3.cell? ⟨w.heap.size, 1, none⟩ = some (.slice Ar r.length cr) := keep hb b1
  replace b2 : w3.cell? ⟨w.heap.size, 2, none⟩ = some (.slice Ah h.length ch) := keep hb b2
  have hB3 : Below w.heap.size w w3 := Below.on' hB2 hb
  have z3 := hb.size
  clear hb
  by_cases nh : qh < 0
  · go_wp2
    go_ret
    exact ⟨-1, rfl, by omega, by omega, hB3⟩
  go_wp2
  go_ret
  exact ⟨qh, rfl, by omega, fun _ => ⟨hrs (by omega), hrr (by omega), hrh (by omega)⟩, hB3⟩
set_option maxHeartbeats 1000000 in
theorem eqChannel_same (As As2 : Option Addr) (cs cs2 : Nat) (s : List Msg) (los his los2 his2 : Nat) (Ar Ar2 : Option Addr) (cr cr2 : Nat) (r : List Msg) (lor hir lor2 hir2 : Nat) (Ah Ah2 : Option Addr) (ch ch2 : Nat) (h : List Msg) (loh hih loh2 hih2 : Nat) (w : World) (hls : s.length ≤ 1048576) (hSs : Msgs w los his As s) (hSs2 : Msgs w los2 his2 As2 s) (hlr : r.length ≤ 1048576) (hSr : Msgs w lor hir Ar r) (hSr2 : Msgs w lor2 hir2 Ar2 r) (hlh : h.length ≤ 1048576) (hSh : Msgs w loh hih Ah h) (hSh2 : Msgs w loh2 hih2 Ah2 h) :
    Calls Tryz.prog 90 #[.agg #[.slice As s.length cs, .slice Ar r.length cr, .slice Ah h.length ch], .agg #[.slice As2 s.length cs2, .slice Ar2 r.length cr2, .slice Ah2 h.length ch2]] w (RV w (.bool true)) := by
  obtain ⟨b0, b1, b2⟩ := cells3 (w := w) (a := .slice As s.length cs) (b := .slice Ar r.length cr) (c := .slice Ah h.length ch) (T := 34)
  have e1 : (w.alloc (.cells #[.slice As s.length cs, .slice Ar r.length cr, .slice Ah h.length ch] 34)).heap.size = w.heap.size + 1 := by simp
  obtain ⟨d0, d1, d2⟩ := cells3 (w := w.alloc (.cells #[.slice As s.length cs, .slice Ar r.length cr, .slice Ah h.length ch] 34)) (a := .slice As2 s.length cs2) (b := .slice Ar2 r.length cr2) (c := .slice Ah2 h.length ch2) (T := 34)
  rw [e1] at d0 d1 d2
  replace b0 := lay (.cells #[.slice As2 s.length cs2, .slice Ar2 r.length cr2, .slice Ah2 h.length ch2] 34) b0
  replace b1 := lay (.cells #[.slice As2 s.length cs2, .slice Ar2 r.length cr2, .slice Ah2 h.length ch2] 34) b1
  replace b2 := lay (.cells #[.slice As2 s.length cs2, .slice Ar2 r.length cr2, .slice Ah2 h.length ch2] 34) b2
  go_enter Tryz.func90, Tryz.ntmps90
  go_wp2_with fail
  refine (eqMessageS_same As As2 cs cs2 _ _ _ _ s _ hls ((hSs.alloc _).alloc _) ((hSs2.alloc _).alloc _)).mono ?_
  rintro e w1 ⟨rfl, hb⟩
  replace b0 : w1.cell? ⟨w.heap.size, 0, none⟩ = some (.slice As s.length cs) := keep hb b0
  replace b1 : w1.cell? ⟨w.heap.size, 1, none⟩ = some (.slice Ar r.length cr) := keep hb b1
  replace b2 : w1.cell? ⟨w.heap.size, 2, none⟩ = some (.slice Ah h.length ch) := keep hb b2
  replace d0 : w1.cell? ⟨w.heap.size + 1, 0, none⟩ = some (.slice As2 s.length cs2) := keep hb d0
  replace d1 : w1.cell? ⟨w.heap.size + 1, 1, none⟩ = some (.slice Ar2 r.length cr2) := keep hb d1
  replace d2 : w1.cell? ⟨w.heap.size + 1, 2, none⟩ = some (.slice Ah2 h.length ch2) := keep hb d2
  have hB1 : Below w.heap.size w w1 := Below.on' (by go_grown) hb
  have z1 := hB1.size
  clear hb
  go_wp2_with fail
  refine (eqMessageS_same Ar Ar2 cr cr2 _ _ _ _ r _ hlr (hSr.below hB1) (hSr2.below hB1)).mono ?_
  rintro e w2 ⟨rfl, hb⟩
  replace b0 : w2.cell? ⟨w.heap.size, 0, none⟩ = some (.slice As s.length cs) := keep hb b0
  replace b1 : w2.cell? ⟨w.heap.size, 1, none⟩ = some (.slice Ar r.length cr) := keep hb b1
  replace b2 : w2.cell? ⟨w.heap.size, 2, none⟩ = some (.slice Ah h.length ch) := keep hb b2
  replace d0 : w2.cell? ⟨w.heap.size + 1, 0, none⟩ = some (.slice As2 s.length cs2) := keep hb d0
  replace d1 : w2.cell? ⟨w.heap.size + 1, 1, none⟩ = some (.slice Ar2 r.length cr2) := keep hb d1
  replace d2 : w2.cell? ⟨w.heap.size + 1, 2, none⟩ = some (.slice Ah2 h.length ch2) := keep hb d2
  have hB2 : Below w.heap.size w w2 := Below.on' hB1 hb
  have z2 := hb.size
  clear hb
  go_wp2_with fail
  refine (eqMessageS_same Ah Ah2 ch ch2 _ _ _ _ h _ hlh (hSh.below hB2) (hSh2.below hB2)).mono ?_
  rintro e w3 ⟨rfl, hb⟩
  replace b0 : w3.cell? ⟨w.heap.size, 0, none⟩ = some (.slice As s.length cs) := keep hb b0
  replace b1 : w3.cell? ⟨w.heap.size, 1, none⟩ = some (.slice Ar r.length cr) := keep hb b1
  replace b2 : w3.cell? ⟨w.heap.size, 2, none⟩ = some (.slice Ah h.length ch) := keep hb b2
  replace d0 : w3.cell? ⟨w.heap.size + 1, 0, none⟩ = some (.slice As2 s.length cs2) := keep hb d0
  replace d1 : w3.cell? ⟨w.heap.size + 1, 1, none⟩ = some (.slice Ar2 r.length cr2) := keep hb d1
  replace d2 : w3.cell? ⟨w.heap.size + 1, 2, none⟩ = some (.slice Ah2 h.length ch2) := keep hb d2
  have hB3 : Below w.heap.size w w3 := Below.on' hB2 hb
  have z3 := hb.size
  clear hb
  go_wp2
  go_ret
  exact RV.mk rfl hB3
set_option maxHeartbeats 1000000 in
theorem heldChannel_any (As : Option Addr) (cs ns los his : Nat) (Ar : Option Addr) (cr nr lor hir : Nat) (Ah : Option Addr) (ch nh loh hih : Nat) (k : Int) (w : World) (hls : ns ≤ 1048576) (hSs : Msgs w los his As (Msg.mkL k ns)) (hlr : nr ≤ 1048576) (hSr : Msgs w lor hir Ar (Msg.mkL (k + 3 * ns) nr)) (hlh : nh ≤ 1048576) (hSh : Msgs w loh hih Ah (Msg.mkL (k + 3 * ns + 3 * nr) nh)) (hk0 : 1 ≤ k) (hk1 : k ≤ 30000000) :
    Calls Tryz.prog 102 #[.agg #[.slice As ns cs, .slice Ar nr cr, .slice Ah nh ch], .int .i64 k] w (RV w (.int .i64 (k + 3 * ns + 3 * nr + 3 * nh))) := by
  obtain ⟨b0, b1, b2⟩ := cells3 (w := w) (a := .slice As ns cs) (b := .slice Ar nr cr) (c := .slice Ah nh ch) (T := 34)
  go_enter Tryz.func102, Tryz.ntmps102
  go_wp2_with fail
  refine (heldMessageS_any As cs _ _ ns k _ hls (by omega) (by omega) (hSs.alloc _)).mono ?_
  rintro e w1 ⟨rfl, hb⟩
  replace b0 : w1.cell? ⟨w.heap.size, 0, none⟩ = some (.slice As ns cs) := keep hb b0
  replace b1 : w1.cell? ⟨w.heap.size, 1, none⟩ = some (.slice Ar nr cr) := keep hb b1
  replace b2 : w1.cell? ⟨w.heap.size, 2, none⟩ = some (.slice Ah nh ch) := keep hb b2
  have hB1 : Below w.heap.size w w1 := Below.on' (by go_grown) hb
  have z1 := hB1.size
  clear hb
  go_wp2_with fail
  refine (heldMessageS_any Ar cr _ _ nr (k + 3 * ns) _ hlr (by omega) (by omega) (hSr.below hB1)).mono ?_
  rintro e w2 ⟨rfl, hb⟩
  replace b0 : w2.cell? ⟨w.heap.size, 0, none⟩ = some (.slice As ns cs) := keep hb b0
  replace b1 : w2.cell? ⟨w.heap.size, 1, none⟩ = some (.slice Ar nr cr) := keep hb b1
  replace b2 : w2.cell? ⟨w.heap.size, 2, none⟩ = some (.slice Ah nh ch) := keep hb b2
  have hB2 : Below w.heap.size w w2 := Below.on' hB1 hb
  have z2 := hb.size
  clear hb
  go_wp2_with fail
  refine (heldMessageS_any Ah ch _ _ nh (k + 3 * ns + 3 * nr) _ hlh (by omega) (by omega) (hSh.below hB2)).mono ?_
  rintro e w3 ⟨rfl, hb⟩
  replace b0 : w3.cell? ⟨w.heap.size, 0, none⟩ = some (.slice As ns cs) := keep hb b0
  replace b1 : w3.cell? ⟨w.heap.size, 1, none⟩ = some (.slice Ar nr cr) := keep hb b1
  replace b2 : w3.cell? ⟨w.heap.size, 2, none⟩ = some (.slice Ah nh ch) := keep hb b2
  have hB3 : Below w.heap.size w w3 := Below.on' hB2 hb
  have z3 := hb.size
  clear hb
  go_wp2
  go_ret
  exact RV.mk rfl hB3
/-- A box of three values. -/
structure B3 (b : Nat) (x y z : Value) (X : World) : Prop where
  c0 : X.cell? ⟨b, 0, none⟩ = some x
  c1 : X.cell? ⟨b, 1, none⟩ = some y
  c2 : X.cell? ⟨b, 2, none⟩ = some z
  f0 : X.frozen? ⟨b, 0, none⟩ = false
  f1 : X.frozen? ⟨b, 1, none⟩ = false
  f2 : X.frozen? ⟨b, 2, none⟩ = false
section
variable {b : Nat} {x y z : Value} {X X' : World}
theorem B3.lt (a : B3 b x y z X) : b < X.heap.size := World.block_lt_of_cell? _ _ a.c0
theorem B3.upto {B : Nat} (a : B3 b x y z X) (hB : b < B) (hb : Below B X X') : B3 b x y z X' :=
  have h0 : ∀ o, X'.cell? ⟨b, o, none⟩ = X.cell? ⟨b, o, none⟩ := fun o => hb.cell (p := ⟨b, o, none⟩) hB
  have k0 : ∀ o, X'.frozen? ⟨b, o, none⟩ = X.frozen? ⟨b, o, none⟩ := fun o => hb.frozen (p := ⟨b, o, none⟩) hB
  ⟨(h0 0).trans a.c0, (h0 1).trans a.c1, (h0 2).trans a.c2, (k0 0).trans a.f0, (k0 1).trans a.f1, (k0 2).trans a.f2⟩
theorem B3.below (a : B3 b x y z X) (hb : Below X.heap.size X X') : B3 b x y z X' := a.upto a.lt hb
theorem B3.alloc (a : B3 b x y z X) (o : Obj) : B3 b x y z (X.alloc o) := a.below ((Below.refl _ _).alloc (Nat.le_refl _) o)
theorem B3.new (w : World) (x y z : Value) (T : TypeId) (n : Nat) (hn : n = w.heap.size) : B3 n x y z (w.alloc (.cells #[x, y, z] T)) := by
  subst hn
  exact ⟨by simp, by simp, by simp, World.frozen?_alloc_at _ _ _ _ rfl, World.frozen?_alloc_at _ _ _ _ rfl, World.frozen?_alloc_at _ _ _ _ rfl⟩
theorem B3.off (a : B3 b x y z X) {p : Addr} (hp : p.block ≠ b) (v : Value) : B3 b x y z (X.setCell p v) :=
  ⟨unset a.c0 hp, unset a.c1 hp, unset a.c2 hp, (World.frozen?_setCell ..).trans a.f0, (World.frozen?_setCell ..).trans a.f1, (World.frozen?_setCell ..).trans a.f2⟩
theorem B3.set0 (a : B3 b x y z X) (v : Value) : B3 b v y z (X.setCell ⟨b, 0, none⟩ v) :=
  ⟨World.cell?_setCell_same _ _ _ a.c0, (World.cell?_setCell_other _ _ _ _ (by simp)).trans a.c1, (World.cell?_setCell_other _ _ _ _ (by simp)).trans a.c2, (World.frozen?_setCell ..).trans a.f0, (World.frozen?_setCell ..).trans a.f1, (World.frozen?_setCell ..).trans a.f2⟩
theorem B3.set1 (a : B3 b x y z X) (v : Value) : B3 b x v z (X.setCell ⟨b, 1, none⟩ v) :=
  ⟨(World.cell?_setCell_other _ _ _ _ (by simp)).trans a.c0, World.cell?_setCell_same _ _ _ a.c1, (World.cell?_setCell_other _ _ _ _ (by simp)).trans a.c2, (World.frozen?_setCell ..).trans a.f0, (World.frozen?_setCell ..).trans a.f1, (World.frozen?_setCell ..).trans a.f2⟩
theorem B3.set2 (a : B3 b x y z X) (v : Value) : B3 b x y v (X.setCell ⟨b, 2, none⟩ v) :=
  ⟨(World.cell?_setCell_other _ _ _ _ (by simp)).trans a.c0, (World.cell?_setCell_other _ _ _ _ (by simp)).trans a.c1, World.cell?_setCell_same _ _ _ a.c2, (World.frozen?_setCell ..).trans a.f0, (World.frozen?_setCell ..).trans a.f1, (World.frozen?_setCell ..).trans a.f2⟩
theorem B3.out (a : B3 b x y z X) (v0 v1 v2 : Value) : (X.setCell ⟨b, 0, none⟩ v0).cell? ⟨b, 0, none⟩ = some v0 ∧ ((X.setCell ⟨b, 0, none⟩ v0).setCell ⟨b, 1, none⟩ v1).cell? ⟨b, 1, none⟩ = some v1 ∧ (((X.setCell ⟨b, 0, none⟩ v0).setCell ⟨b, 1, none⟩ v1).setCell ⟨b, 2, none⟩ v2).cell? ⟨b, 2, none⟩ = some v2 :=
  ⟨(a.set0 v0).c0, ((a.set0 v0).set1 v1).c1, (((a.set0 v0).set1 v1).set2 v2).c2⟩
end
theorem Fr.wide {lo hi lo' hi' : Nat} {w w' : World} (h : Fr lo hi w w') (h1 : lo' ≤ lo) (h2 : hi ≤ hi') : Fr lo' hi' w w' := ⟨h.os, h.tape, h.output, h.size, fun b hb hn => h.block b hb (by omega)⟩
set_option maxHeartbeats 1000000 in
theorem markChannel_any (As : Option Addr) (cs los his : Nat) (s : List Msg) (Ar : Option Addr) (cr lor hir : Nat) (r : List Msg) (Ah : Option Addr) (ch loh hih : Nat) (h : List Msg) (k : Int) (w : World) (hls : s.length ≤ 1048576) (hSs : Msgs w los his As s) (hlr : r.length ≤ 1048576) (hSr : Msgs w lor hir Ar r) (hlh : h.length ≤ 1048576) (hSh : Msgs w loh hih Ah h) (hk0 : 1 ≤ k) (hk1 : k ≤ 30000000) (lo hi : Nat) (d1 : lo ≤ los ∧ los ≤ his ∧ his ≤ hi) (d2 : lo ≤ lor ∧ lor ≤ hir ∧ hir ≤ hi) (d3 : lo ≤ loh ∧ loh ≤ hih ∧ hih ≤ hi) (d4 : hi ≤ w.heap.size) (d5 : his ≤ lor ∨ hir ≤ los) (d6 : his ≤ loh ∨ hih ≤ los) (d7 : hir ≤ loh ∨ hih ≤ lor) :
    Calls Tryz.prog 94 #[.agg #[.slice As s.length cs, .slice Ar r.length cr, .slice Ah h.length ch], .int .i64 k] w fun e w' => e = .returned (.int .i64 (k + 3 * s.length + 3 * r.length + 3 * h.length)) ∧ Msgs w' los his As (Msg.mkL k s.length) ∧ Msgs w' lor hir Ar (Msg.mkL (k + 3 * s.length) r.length) ∧ Msgs w' loh hih Ah (Msg.mkL (k + 3 * s.length + 3 * r.length) h.length) ∧ Fr lo hi w w' := by
  obtain ⟨b0, b1, b2⟩ := cells3 (w := w) (a := .slice As s.length cs) (b := .slice Ar r.length cr) (c := .slice Ah h.length ch) (T := 34)
  have hFw : Fr lo hi w (w.alloc (.cells #[.slice As s.length cs, .slice Ar r.length cr, .slice Ah h.length ch] 34)) := (Fr.refl _ _ _).alloc _
  go_enter Tryz.func94, Tryz.ntmps94
  replace hSs := hSs.alloc (.cells #[.slice As s.length cs, .slice Ar r.length cr, .slice Ah h.length ch] 34)
  replace hSr := hSr.alloc (.cells #[.slice As s.length cs, .slice Ar r.length cr, .slice Ah h.length ch] 34)
  replace hSh := hSh.alloc (.cells #[.slice As s.length cs, .slice Ar r.length cr, .slice Ah h.length ch] 34)
  go_wp2_with fail
  refine (markMessageS_any As cs _ _ s k _ hls (by omega) (by omega) hSs).mono ?_
  rintro e w1 ⟨rfl, hM, hF⟩
  replace b0 : w1.cell? ⟨w.heap.size, 0, none⟩ = some (.slice As s.length cs) := (World.cell?_of_block (hF.block _ (World.block_lt_of_cell? _ _ b0) (by simp only; omega))).trans b0
  replace b1 : w1.cell? ⟨w.heap.size, 1, none⟩ = some (.slice Ar r.length cr) := (World.cell?_of_block (hF.block _ (World.block_lt_of_cell? _ _ b1) (by simp only; omega))).trans b1
  replace b2 : w1.cell? ⟨w.heap.size, 2, none⟩ = some (.slice Ah h.length ch) := (World.cell?_of_block (hF.block _ (World.block_lt_of_cell? _ _ b2) (by simp only; omega))).trans b2
  replace hSs := hM
  replace hSr := hSr.fr hF (by omega)
  replace hSh := hSh.fr hF (by omega)
  replace hFw := hFw.trans (hF.wide (by omega) (by omega))
  clear hM hF
  go_wp2_with fail
  refine (markMessageS_any Ar cr _ _ r (k + 3 * s.length) _ hlr (by omega) (by omega) hSr).mono ?_
  rintro e w2 ⟨rfl, hM, hF⟩
  replace b0 : w2.cell? ⟨w.heap.size, 0, none⟩ = some (.slice As s.length cs) := (World.cell?_of_block (hF.block _ (World.block_lt_of_cell? _ _ b0) (by simp only; omega))).trans b0
  replace b1 : w2.cell? ⟨w.heap.size, 1, none⟩ = some (.slice Ar r.length cr) := (World.cell?_of_block (hF.block _ (World.block_lt_of_cell? _ _ b1) (by simp only; omega))).trans b1
  replace b2 : w2.cell? ⟨w.heap.size, 2, none⟩ = some (.slice Ah h.length ch) := (World.cell?_of_block (hF.block _ (World.block_lt_of_cell? _ _ b2) (by simp only; omega))).trans b2
  replace hSr := hM
  replace hSs := hSs.fr hF (by omega)
  replace hSh := hSh.fr hF (by omega)
  replace hFw := hFw.trans (hF.wide (by omega) (by omega))
  clear hM hF
  go_wp2_with fail
  refine (markMessageS_any Ah ch _ _ h (k + 3 * s.length + 3 * r.length) _ hlh (by omega) (by omega) hSh).mono ?_
  rintro e w3 ⟨rfl, hM, hF⟩
  replace b0 : w3.cell? ⟨w.heap.size, 0, none⟩ = some (.slice As s.length cs) := (World.cell?_of_block (hF.block _ (World.block_lt_of_cell? _ _ b0) (by simp only; omega))).trans b0
  replace b1 : w3.cell? ⟨w.heap.size, 1, none⟩ = some (.slice Ar r.length cr) := (World.cell?_of_block (hF.block _ (World.block_lt_of_cell? _ _ b1) (by simp only; omega))).trans b1
  replace b2 : w3.cell? ⟨w.heap.size, 2, none⟩ = some (.slice Ah h.length ch) := (World.cell?_of_block (hF.block _ (World.block_lt_of_cell? _ _ b2) (by simp only; omega))).trans b2
  replace hSh := hM
  replace hSs := hSs.fr hF (by omega)
  replace hSr := hSr.fr hF (by omega)
  replace hFw := hFw.trans (hF.wide (by omega) (by omega))
  clear hM hF
  go_wp2
  go_ret
  exact ⟨rfl, hSs, hSr, hSh, hFw⟩
set_option maxHeartbeats 4000000 in
theorem toChannel_any (As : Option Addr) (cs : Nat) (s : List Msg) (Ar : Option Addr) (cr : Nat) (r : List Msg) (Ah : Option Addr) (ch : Nat) (h : List Msg) (w : World) (hls : s.length ≤ 1048576) (hSs : Msgs w 0 w.heap.size As s) (hlr : r.length ≤ 1048576) (hSr : Msgs w 0 w.heap.size Ar r) (hlh : h.length ≤ 1048576) (hSh : Msgs w 0 w.heap.size Ah h) :
    Calls Tryz.prog 86 #[.agg #[.slice As s.length cs, .slice Ar r.length cr, .slice Ah h.length ch]] w fun e w' => ∃ g1 g2 g3 m1 m2, e = .returned (.agg #[.slice (some ⟨g1, 0, none⟩) s.length s.length, .slice (some ⟨g2, 0, none⟩) r.length r.length, .slice (some ⟨g3, 0, none⟩) h.length h.length]) ∧ w.heap.size ≤ m1 ∧ m1 ≤ m2 ∧ m2 ≤ w'.heap.size ∧ Msgs w' w.heap.size m1 (some ⟨g1, 0, none⟩) s ∧ Msgs w' m1 m2 (some ⟨g2, 0, none⟩) r ∧ Msgs w' m2 w'.heap.size (some ⟨g3, 0, none⟩) h ∧ Below w.heap.size w w' := by
  have e1 : (w.alloc (.cells #[.slice As s.length cs, .slice Ar r.length cr, .slice Ah h.length ch] 25)).heap.size = w.heap.size + 1 := by simp
  have e2 : ((w.alloc (.cells #[.slice As s.length cs, .slice Ar r.length cr, .slice Ah h.length ch] 25)).alloc (.cells #[.slice none 0 0, .slice none 0 0, .slice none 0 0] 34)).heap.size = w.heap.size + 2 := by simp
  have X1 := ((B3.new w (.slice As s.length cs) (.slice Ar r.length cr) (.slice Ah h.length ch) 25 _ rfl).alloc (.cells #[.slice none 0 0, .slice none 0 0, .slice none 0 0] 34)).alloc (.cells #[.slice none 0 0, .slice none 0 0, .slice none 0 0] 34)
  have X2 := (B3.new (w.alloc (.cells #[.slice As s.length cs, .slice Ar r.length cr, .slice Ah h.length ch] 25)) (.slice none 0 0) (.slice none 0 0) (.slice none 0 0) 34 (w.heap.size + 1) e1.symm).alloc (.cells #[.slice none 0 0, .slice none 0 0, .slice none 0 0] 34)
  have X3 := B3.new ((w.alloc (.cells #[.slice As s.length cs, .slice Ar r.length cr, .slice Ah h.length ch] 25)).alloc (.cells #[.slice none 0 0, .slice none 0 0, .slice none 0 0] 34)) (.slice none 0 0) (.slice none 0 0) (.slice none 0 0) 34 (w.heap.size + 2) e2.symm
  have b0 := X1.c0
  go_enter Tryz.func86, Tryz.ntmps86
  go_wp2_with fail
  refine (toMessageS_any As cs s _ hls (((hSs.alloc _).alloc _).alloc _).all).mono ?_
  rintro e w1 ⟨g1, rfl, hU1, hb⟩
  have hB1 : Below w.heap.size w w1 := Below.on' (by go_grown) hb
  have T1 := hU1.mono (lo' := w.heap.size + 3) (hi' := w1.heap.size) (by simp) (Nat.le_refl _) (Nat.le_refl _)
  replace X1 := X1.below hb
  replace X2 := X2.below hb
  replace X3 := X3.below hb
  have z1 := X3.lt
  clear hb hU1 b0 e1 e2
  have Y1 := X1.off (p := ⟨w.heap.size + 2, 0, none⟩) (by simp) (.slice (some ⟨g1, 0, none⟩) s.length s.length)
  have Y2 := X2.off (p := ⟨w.heap.size + 2, 0, none⟩) (by simp) (.slice (some ⟨g1, 0, none⟩) s.length s.length)
  have Y3 := X3.set0 (.slice (some ⟨g1, 0, none⟩) s.length s.length)
  have hF : Fr (w.heap.size + 2) (w.heap.size + 3) w1 (w1.setCell ⟨w.heap.size + 2, 0, none⟩ (.slice (some ⟨g1, 0, none⟩) s.length s.length)) := (Fr.refl _ _ _).setCell ⟨by simp, by simp⟩ _
  replace T1 := T1.fr hF (by omega)
  have hBs : Below w.heap.size w (w1.setCell ⟨w.heap.size + 2, 0, none⟩ (.slice (some ⟨g1, 0, none⟩) s.length s.length)) := hB1.trans (hF.below (by omega) (by omega))
  have y2 := Y1.c1
  obtain ⟨a0, a1, a2, f0, f1, f2⟩ := id X3
  clear hF
  go_wp2_with fail
  refine (toMessageS_any Ar cr r _ hlr (hSr.below hBs).all).mono ?_
  rintro e w2 ⟨g2, rfl, hU, hb⟩
  have hB2 : Below w.heap.size w w2 := Below.on' hBs hb
  have T2 := hU.mono (lo' := w1.heap.size) (hi' := w2.heap.size) (by simp) (Nat.le_refl _) (Nat.le_refl _)
  have z2 : w1.heap.size ≤ w2.heap.size := by have := hb.size; simpa using this
  replace T1 := T1.below hb
  replace X1 := Y1.below hb
  replace X2 := Y2.below hb
  replace X3 := Y3.below hb
  clear hb hU y2 Y1 Y2 Y3 hBs a0 a1 a2 f0 f1 f2
  have Y1 := X1.off (p := ⟨w.heap.size + 2, 1, none⟩) (by simp) (.slice (some ⟨g2, 0, none⟩) r.length r.length)
  have Y2 := X2.off (p := ⟨w.heap.size + 2, 1, none⟩) (by simp) (.slice (some ⟨g2, 0, none⟩) r.length r.length)
  have Y3 := X3.set1 (.slice (some ⟨g2, 0, none⟩) r.length r.length)
  have hF : Fr (w.heap.size + 2) (w.heap.size + 3) w2 (w2.setCell ⟨w.heap.size + 2, 1, none⟩ (.slice (some ⟨g2, 0, none⟩) r.length r.length)) := (Fr.refl _ _ _).setCell ⟨by simp, by simp⟩ _
  replace T1 := T1.fr hF (by omega)
  replace T2 := T2.fr hF (by omega)
  have hBs : Below w.heap.size w (w2.setCell ⟨w.heap.size + 2, 1, none⟩ (.slice (some ⟨g2, 0, none⟩) r.length r.length)) := hB2.trans (hF.below (by omega) (by omega))
  have y3 := Y1.c2
  obtain ⟨a0, a1, a2, f0, f1, f2⟩ := id X3
  clear hF
  go_wp2_with fail
  refine (toMessageS_any Ah ch h _ hlh (hSh.below hBs).all).mono ?_
  rintro e w3 ⟨g3, rfl, hU, hb⟩
  have hB3 : Below w.heap.size w w3 := Below.on' hBs hb
  have T3 := hU.mono (lo' := w2.heap.size) (hi' := w3.heap.size) (by simp) (Nat.le_refl _) (Nat.le_refl _)
  have z3 : w2.heap.size ≤ w3.heap.size := by have := hb.size; simpa using this
  replace T1 := T1.below hb
  replace T2 := T2.below hb
  replace X1 := Y1.below hb
  replace X2 := Y2.below hb
  replace X3 := Y3.below hb
  clear hb hU y3 Y1 Y2 Y3 hBs a0 a1 a2 f0 f1 f2
  have Y2 := X2.off (p := ⟨w.heap.size + 2, 2, none⟩) (by simp) (.slice (some ⟨g3, 0, none⟩) h.length h.length)
  have Y3 := X3.set2 (.slice (some ⟨g3, 0, none⟩) h.length h.length)
  obtain ⟨a0, a1, a2, f0, f1, f2⟩ := id X3
  obtain ⟨k0, k1, k2, l0, l1, l2⟩ := id Y3
  obtain ⟨m0, m1, m2, n0, n1, n2⟩ := id Y2
  obtain ⟨y0, y1, y2⟩ := Y2.out (.slice (some ⟨g1, 0, none⟩) s.length s.length) (.slice (some ⟨g2, 0, none⟩) r.length r.length) (.slice (some ⟨g3, 0, none⟩) h.length h.length)
  have hF : Fr (w.heap.size + 1) (w.heap.size + 3) w3 ((((w3.setCell ⟨w.heap.size + 2, 2, none⟩ (.slice (some ⟨g3, 0, none⟩) h.length h.length)).setCell ⟨w.heap.size + 1, 0, none⟩ (.slice (some ⟨g1, 0, none⟩) s.length s.length)).setCell ⟨w.heap.size + 1, 1, none⟩ (.slice (some ⟨g2, 0, none⟩) r.length r.length)).setCell ⟨w.heap.size + 1, 2, none⟩ (.slice (some ⟨g3, 0, none⟩) h.length h.length)) := ((((Fr.refl _ _ _).setCell ⟨by simp, by simp⟩ _).setCell ⟨by simp, by simp⟩ _).setCell ⟨by simp, by simp⟩ _).setCell ⟨by simp, by simp⟩ _
  replace T1 := T1.fr hF (by omega)
  replace T2 := T2.fr hF (by omega)
  replace T3 := T3.fr hF (by omega)
  have hB4 : Below w.heap.size w ((((w3.setCell ⟨w.heap.size + 2, 2, none⟩ (.slice (some ⟨g3, 0, none⟩) h.length h.length)).setCell ⟨w.heap.size + 1, 0, none⟩ (.slice (some ⟨g1, 0, none⟩) s.length s.length)).setCell ⟨w.heap.size + 1, 1, none⟩ (.slice (some ⟨g2, 0, none⟩) r.length r.length)).setCell ⟨w.heap.size + 1, 2, none⟩ (.slice (some ⟨g3, 0, none⟩) h.length h.length)) := hB3.trans (hF.below (by omega) (by omega))
  clear hF X1 X2 X3 Y2 Y3
  go_wp2
  refine bodyPost_ret (by simp [results, Tryz.results86, go_sem, y0, y1, y2]; try rfl) rfl ?_
  exact ⟨g1, g2, g3, w1.heap.size, w2.heap.size, rfl, by omega, z2, by simpa using z3, T1.mono (by omega) (Nat.le_refl _) (by simp; omega), T2.mono (Nat.le_refl _) (Nat.le_refl _) (by simp; omega), T3.mono (Nat.le_refl _) (by simp) (Nat.le_refl _), hB4⟩
end Go.Proofs.YtianabfehonliaaGreatDoor
namespace Go.Proofs.YtianabfehonliaaGreatDoor
open Go.ChangeShapes Go.WideShapes Go.ChangeAt Go.RowKit Go.Joins

section
variable {H : Type} {enc : TypeId × Value → H} {W : World}
set_option maxRecDepth 100000 in
theorem Chan.rd (fuel : Nat) (cs : List Value) (y : DataW H × List MemPlace) (hl : cs.length = 3) (ht : DataW.trod enc Tryz.prog W 0 (fun _ => true) true fuel 25 cs = some y) (hlt : ∀ x ∈ y.2, x.block < W.heap.size) (hnf : W.noneFrozen y.2) :
    ∃ (As : Option Addr) (cs' : Nat) (s : List Msg) (Ar : Option Addr) (cr : Nat) (r : List Msg) (Ah : Option Addr) (ch : Nat) (h : List Msg), cs = [.slice As s.length cs', .slice Ar r.length cr, .slice Ah h.length ch] ∧
      (s.length ≤ maxLen ∧ (∀ x ∈ s, x.f.size ≤ maxLen ∧ x.b.size ≤ maxLen) ∧ Msgs W 0 W.heap.size As s) ∧ (r.length ≤ maxLen ∧ (∀ x ∈ r, x.f.size ≤ maxLen ∧ x.b.size ≤ maxLen) ∧ Msgs W 0 W.heap.size Ar r) ∧ (h.length ≤ maxLen ∧ (∀ x ∈ h, x.f.size ≤ maxLen ∧ x.b.size ≤ maxLen) ∧ Msgs W 0 W.heap.size Ah h) := by
  match cs, hl with
  | [c0, c1, c2], _ =>
    obtain ⟨xs, m, _, hx, _, hlen, hg⟩ := DataW.trod_struct Tryz.underlying25 ht
    match xs, hlen with
    | [y0, y1, y2], _ =>
      subst hx
      have g0 : DataW.trod enc Tryz.prog W 0 (fun _ => true) true m 23 (List.take (Tryz.prog.cellsOf 23) (List.drop 0 [c0, c1, c2])) = some y0 := hg 0 _ rfl
      rw [show Tryz.prog.cellsOf 23 = 1 from by kernel_rfl] at g0
      have g1 : DataW.trod enc Tryz.prog W 0 (fun _ => true) true m 23 (List.take (Tryz.prog.cellsOf 23) (List.drop 1 [c0, c1, c2])) = some y1 := hg 1 _ rfl
      rw [show Tryz.prog.cellsOf 23 = 1 from by kernel_rfl] at g1
      have g2 : DataW.trod enc Tryz.prog W 0 (fun _ => true) true m 23 (List.take (Tryz.prog.cellsOf 23) (List.drop 2 [c0, c1, c2])) = some y2 := hg 2 _ rfl
      rw [show Tryz.prog.cellsOf 23 = 1 from by kernel_rfl] at g2
      obtain ⟨As, cs, s, rfl, hls, hms, hSs⟩ := open_slc (d := y0.1) (p := y0.2) (fun x => x.f.size ≤ maxLen ∧ x.b.size ≤ maxLen) Tryz.underlying23 (by kernel_rfl) (by omega) Msg.len (fun n cs' y hl h => Msg.rd n cs' y hl h) g0 (fun x hx => hlt x (by simp [hx])) (fun b o hx => hnf b o (by simp [hx]))
      obtain ⟨Ar, cr, r, rfl, hlr, hmr, hSr⟩ := open_slc (d := y1.1) (p := y1.2) (fun x => x.f.size ≤ maxLen ∧ x.b.size ≤ maxLen) Tryz.underlying23 (by kernel_rfl) (by omega) Msg.len (fun n cs' y hl h => Msg.rd n cs' y hl h) g1 (fun x hx => hlt x (by simp [hx])) (fun b o hx => hnf b o (by simp [hx]))
      obtain ⟨Ah, ch, h, rfl, hlh, hmh, hSh⟩ := open_slc (d := y2.1) (p := y2.2) (fun x => x.f.size ≤ maxLen ∧ x.b.size ≤ maxLen) Tryz.underlying23 (by kernel_rfl) (by omega) Msg.len (fun n cs' y hl h => Msg.rd n cs' y hl h) g2 (fun x hx => hlt x (by simp [hx])) (fun b o hx => hnf b o (by simp [hx]))
      exact ⟨As, cs, s, Ar, cr, r, Ah, ch, h, rfl, ⟨hls, hms, hSs⟩, ⟨hlr, hmr, hSr⟩, ⟨hlh, hmh, hSh⟩⟩
set_option maxRecDepth 100000 in
theorem Chan.opened {r : Reach} {b0 : Nat} {v : Value} {d : DataW H} {p : List MemPlace} (hv : Value.okWide Tryz.prog W r b0 25 v) (h : DataW.Trod enc Tryz.prog W 0 (fun _ => true) true 25 v d p) (hlt : ∀ x ∈ p, x.block < W.heap.size) (hnf : W.noneFrozen p) :
    ∃ (As : Option Addr) (cs : Nat) (s : List Msg) (Ar : Option Addr) (cr : Nat) (r : List Msg) (Ah : Option Addr) (ch : Nat) (h : List Msg), v = .agg #[.slice As s.length cs, .slice Ar r.length cr, .slice Ah h.length ch] ∧
      (s.length ≤ maxLen ∧ (∀ x ∈ s, x.f.size ≤ maxLen ∧ x.b.size ≤ maxLen) ∧ Msgs W 0 W.heap.size As s) ∧ (r.length ≤ maxLen ∧ (∀ x ∈ r, x.f.size ≤ maxLen ∧ x.b.size ≤ maxLen) ∧ Msgs W 0 W.heap.size Ar r) ∧ (h.length ≤ maxLen ∧ (∀ x ∈ h, x.f.size ≤ maxLen ∧ x.b.size ≤ maxLen) ∧ Msgs W 0 W.heap.size Ah h) := by
  obtain ⟨vs, rfl, hsz⟩ := okWide_struct Tryz.underlying25 hv
  obtain ⟨fuel, hf⟩ := h
  have hC : Tryz.prog.cellsOf 25 = 3 := by kernel_rfl
  obtain ⟨As, cs, s, Ar, cr, r, Ah, ch, h, he, h1, h2, h3⟩ := Chan.rd fuel vs.toList _ (by rw [Array.length_toList]; exact hsz.trans hC) hf hlt hnf
  exact ⟨As, cs, s, Ar, cr, r, Ah, ch, h, by rw [← he], h1, h2, h3⟩
end
end Go.Proofs.YtianabfehonliaaGreatDoor
namespace Go.Proofs.YtianabfehonliaaGreatDoor
open Go.RowKit

set_option maxHeartbeats 1000000 in
theorem raFind_any (A : Option Addr) (c : Nat) (l : List Msg) (f : ByteArray) (n : Int) (w : World) (hl : l.length ≤ 1048576) (hS : Msgs w 0 w.heap.size A l) :
    Calls Tryz.prog 127 #[.slice A l.length c, .string f, .int .i64 n] w (RV w (.int .i64 (idxG (keyP f n) l 0))) := by
  go_enter Tryz.func127, Tryz.ntmps127
  go_wp2_with fail
  go_loopw [11] (fun i wr => ∃ k : Nat, k ≤ l.length ∧ i = .int .i64 k ∧ Hid (idxG (keyP f n) (l.drop k) k = idxG (keyP f n) l 0) ∧ Below w.heap.size w wr) (fun i _ => l.length - (intOf i).toNat)
  case atStart => exact ⟨0, Nat.zero_le _, rfl, rfl, Below.refl _ _⟩
  case round =>
    obtain ⟨k, hk, rfl, HF, hB⟩ := hrel
    have hz := hB.size
    by_cases hlt : k < l.length
    · obtain ⟨x, hx, _⟩ := get_lt hlt
      have HC := Lib.hid (idxG_step (p := keyP f n) hx)
      obtain ⟨b, off, rfl, _, _, _, hf⟩ := (hS.below hB).at_ hx
      have c0 : wr.cell? ⟨b, off + k * 3, none⟩ = some (.string x.f) := (hf 0 _ rfl).1
      have c1 : wr.cell? ⟨b, off + k * 3 + 1, none⟩ = some (.int .i64 x.n) := (hf 1 _ rfl).1
      have c2 : wr.cell? ⟨b, off + k * 3 + 2, none⟩ = some (.string x.b) := (hf 2 _ rfl).1
      clear hf hx
      go_wp2
      all_goals first
        | (go_ret
           exact RV.mk (by rw [← HF.out, HC.out, if_pos (by first | (simp [keyP, *]; done) | (simp_all [keyP]; done))]; rfl) (by go_grown))
        | (go_roundw
           case rel => exact ⟨k + 1, by omega, by go_num, Lib.hid ((HC.out.trans (if_neg (by first | (simp [keyP, *]; done) | (simp_all [keyP]; done)))).symm.trans HF.out), by go_grown⟩
           case measure => simp [intOf]; omega)
    · have hd : l.drop k = [] := List.drop_of_length_le (by omega)
      have HE : Hid ((-1 : Int) = idxG (keyP f n) l 0) := Lib.hid (by have := HF.out; rw [hd] at this; exact this)
      clear hd HF
      go_wp2
      go_ret
      exact RV.mk (by rw [← HE.out]; rfl) hB
theorem cntM_step {l : List Msg} {k : Nat} {x : Msg} (hx : l[k]? = some x) (f : ByteArray) : (cntM (l.take (k + 1)) f : Int) = cntM (l.take k) f + if x.f.toList = f.toList then 1 else 0 := by
  rw [take_snoc hx, cntM_append]
  by_cases h : x.f.toList = f.toList <;> simp [cntM, h]
theorem cntM_le (l : List Msg) (f : ByteArray) : cntM l f ≤ l.length := List.length_filter_le _ _
set_option maxHeartbeats 1000000 in
theorem raCount_any (A : Option Addr) (c : Nat) (l : List Msg) (f : ByteArray) (w : World) (hl : l.length ≤ 1048576) (hS : Msgs w 0 w.heap.size A l) :
    Calls Tryz.prog 170 #[.slice A l.length c, .string f] w (RV w (.int .i64 (cntM l f))) := by
  go_enter Tryz.func170, Tryz.ntmps170
  go_wp2_with fail
  go_loopw [5, 10] (fun o i wr => ∃ (k : Nat) (v : Int), k ≤ l.length ∧ i = .int .i64 k ∧ o = .int .i64 v ∧ 0 ≤ v ∧ v ≤ k ∧ Hid (v = cntM (l.take k) f) ∧ Below w.heap.size w wr) (fun _ i _ => l.length - (intOf i).toNat)
  case atStart => exact ⟨0, 0, Nat.zero_le _, rfl, rfl, by omega, by omega, Lib.hid (by simp [cntM]), Below.refl _ _⟩
  case round =>
    obtain ⟨k, v, hk, rfl, rfl, hv0, hv1, HF, hB⟩ := hrel
    have hz := hB.size
    by_cases hlt : k < l.length
    · obtain ⟨x, hx, _⟩ := get_lt hlt
      have HC := Lib.hid (cntM_step hx f)
      obtain ⟨b, off, rfl, _, _, _, hf⟩ := (hS.below hB).at_ hx
      have c0 : wr.cell? ⟨b, off + k * 3, none⟩ = some (.string x.f) := (hf 0 _ rfl).1
      have c1 : wr.cell? ⟨b, off + k * 3 + 1, none⟩ = some (.int .i64 x.n) := (hf 1 _ rfl).1
      have c2 : wr.cell? ⟨b, off + k * 3 + 2, none⟩ = some (.string x.b) := (hf 2 _ rfl).1
      clear hf hx
      by_cases q : x.f.toList = f.toList
      · have HD : Hid (v + 1 = cntM (l.take (k + 1)) f) := Lib.hid (by rw [HC.out, ← HF.out, if_pos q])
        clear HC HF
        go_wp2
        go_roundw
        case rel => exact ⟨k + 1, v + 1, by omega, by go_num, by go_num, by omega, by omega, HD, by go_grown⟩
        case measure => simp [intOf]; omega
      · have HD : Hid (v = cntM (l.take (k + 1)) f) := Lib.hid (by rw [HC.out, ← HF.out, if_neg q]; simp)
        have qb : (x.f.toList == f.toList) = false := by simpa using q
        clear HC HF q
        go_wp2
        go_roundw
        case rel => exact ⟨k + 1, v, by omega, by go_num, by go_num, by omega, by omega, HD, by go_grown⟩
        case measure => simp [intOf]; omega
    · obtain rfl : k = l.length := by omega
      rw [List.take_length] at HF
      go_wp2
      go_ret
      exact RV.mk (by rw [HF.out]; rfl) hB
theorem Sl.pre {α : Type} {E : α → List Value} {k : Nat} {w : World} {lo hi : Nat} {A : Option Addr} {l : List α} (h : Sl E k w lo hi A l) (n : Nat) : Sl E k w lo hi A (l.take n) := fun hn => by
  obtain ⟨b, off, e, c, d, g, f⟩ := h (by rintro rfl; simp at hn)
  refine ⟨b, off, e, c, d, g, fun i x hx => f i x ?_⟩
  rw [List.getElem?_take] at hx
  split at hx
  · exact hx
  · cases hx
theorem someAt_eq {l all : List Msg} {k : Nat} {x : Msg} (hx : l[k]? = some x) : someAt l all k = (memM all x && !memM (l.take k) x) := by simp [someAt, hx]
set_option maxRecDepth 100000 in
set_option maxHeartbeats 4000000 in
theorem areSome_any (A : Option Addr) (c : Nat) (l : List Msg) (A2 : Option Addr) (cc : Nat) (all : List Msg) (w : World) (hl : l.length ≤ 1048576) (hc : l.length ≤ c) (hS : Msgs w 0 w.heap.size A l) (hl2 : all.length ≤ 1048576) (hS2 : Msgs w 0 w.heap.size A2 all) :
    Calls Tryz.prog 175 #[.slice A l.length c, .slice A2 all.length cc] w (RV w (.bool (someB l all))) := by
  go_enter Tryz.func175, Tryz.ntmps175
  go_wp2_with fail
  go_loopw [9] (fun i wr => ∃ k : Nat, k ≤ l.length ∧ i = .int .i64 k ∧ Hid (∀ i, i < k → someAt l all i = true) ∧ Below w.heap.size w wr) (fun i _ => l.length - (intOf i).toNat)
  case atStart => exact ⟨0, Nat.zero_le _, rfl, Lib.hid (fun i hi => absurd hi (Nat.not_lt_zero i)), Below.refl _ _⟩
  case round =>
    obtain ⟨k, hk, rfl, HX, hB⟩ := hrel
    have hz := hB.size
    by_cases hlt : k < l.length
    · obtain ⟨x, hx, _⟩ := get_lt hlt
      have HE := Lib.hid (someAt_eq (all := all) hx)
      have hSr := (hS.below hB)
      obtain ⟨b, off, rfl, _, _, _, hf⟩ := hSr.at_ hx
      have c0 : wr.cell? ⟨b, off + k * 3, none⟩ = some (.string x.f) := (hf 0 _ rfl).1
      have c1 : wr.cell? ⟨b, off + k * 3 + 1, none⟩ = some (.int .i64 x.n) := (hf 1 _ rfl).1
      have c2 : wr.cell? ⟨b, off + k * 3 + 2, none⟩ = some (.string x.b) := (hf 2 _ rfl).1
      clear hf hx
      have hS1 : Msgs wr 0 w.heap.size (some ⟨b, off, none⟩) (l.take k) := hSr.pre k
      have hbox : ∀ W, Below (wr.alloc (.cells #[.string x.f, .int .i64 x.n, .string x.b] 66)).heap.size (wr.alloc (.cells #[.string x.f, .int .i64 x.n, .string x.b] 66)) W → W.cell? ⟨wr.heap.size, 0, none⟩ = some (.string x.f) ∧ W.cell? ⟨wr.heap.size, 1, none⟩ = some (.int .i64 x.n) ∧ W.cell? ⟨wr.heap.size, 2, none⟩ = some (.string x.b) := fun W hb =>
        have H := fun t u hu => keep hb (new_cells (E := Msg.cells) wr 66 x _ rfl t u hu)
        ⟨H 0 _ rfl, H 1 _ rfl, H 2 _ rfl⟩
      have HM : ∀ W, Below (wr.alloc (.cells #[.string x.f, .int .i64 x.n, .string x.b] 66)).heap.size (wr.alloc (.cells #[.string x.f, .int .i64 x.n, .string x.b] 66)) W → Calls Tryz.prog 126 #[.slice A2 all.length cc, .agg #[.string x.f, .int .i64 x.n, .string x.b]] W (RV W (.bool (memM all x))) := fun W hb => Msg.Contains_any A2 cc all x W hl2 (((hS2.below hB).alloc _).below hb).all
      have HN : ∀ W, Below (wr.alloc (.cells #[.string x.f, .int .i64 x.n, .string x.b] 66)).heap.size (wr.alloc (.cells #[.string x.f, .int .i64 x.n, .string x.b] 66)) W → Calls Tryz.prog 126 #[.slice (some ⟨b, off, none⟩) k c, .agg #[.string x.f, .int .i64 x.n, .string x.b]] W (RV W (.bool (memM (l.take k) x))) := fun W hb => by
        have := Msg.Contains_any (some ⟨b, off, none⟩) c (l.take k) x W (by rw [List.length_take]; omega) ((hS1.alloc _).below hb).all
        rw [List.length_take, Nat.min_eq_left (by omega)] at this
        exact this
      clear hSr hS1
      have hkc : k ≤ c := by omega
      go_wp2_with fail
      generalize hV : wr.alloc (.cells #[.string x.f, .int .i64 x.n, .string x.b] 66) = V at hbox HM HN ⊢
      have hBV : Below w.heap.size w V := by rw [← hV]; go_grown
      clear c0 c1 c2
      by_cases g1 : memM all x = true
      rotate_left
      · have g1 : memM all x = false := by simpa using g1
        rw [g1] at HM
        have HF : Hid (someB l all = false) := Lib.hid (by rw [someB, upto_no hlt (by rw [HE.out, g1]; rfl)])
        clear HE HX g1
        refine wp_region_quiet (C := fun w' => Below V.heap.size V w') (by kernel_rfl) (by kernel_rfl) ((Below.refl _ _).drew) ?_
        dsimp only [Array.toList]
        iterate 11
          with_reducible refine wpQuiet_step (fun K hK => ?_)
          go_simp
          first
            | (refine hK _ ?_; clear hK K)
            | (apply Exists.intro
               refine ⟨fun w' hw' => ?_, hK _ ?_⟩
               · obtain ⟨z0, z1, z2⟩ := hbox w' hw'
                 have M1 := HM w' hw'
                 have M2 := HN w' hw'
                 go_simp
                 first
                   | rfl
                   | (refine M1.mono ?_; rintro e w1 ⟨rfl, hb⟩; exact ⟨rfl, hw'.trans (hb.mono hw'.size)⟩)
                   | (refine M2.mono ?_; rintro e w1 ⟨rfl, hb⟩; exact ⟨rfl, hw'.trans (hb.mono hw'.size)⟩)
               clear hK K)
        refine wpQuiet_nil ?_
        intro W2 hW2
        have hB2 : Below w.heap.size w W2 := Below.on' hBV hW2
        clear hbox HM HN hW2
        go_wp2
        go_ret
        exact RV.mk (by rw [HF.out]; rfl) hB2
      by_cases g2 : memM (l.take k) x = true
      · rw [g1] at HM
        rw [g2] at HN
        have HF : Hid (someB l all = false) := Lib.hid (by rw [someB, upto_no hlt (by rw [HE.out, g1, g2]; rfl)])
        clear HE HX g1 g2
        refine wp_region_quiet (C := fun w' => Below V.heap.size V w') (by kernel_rfl) (by kernel_rfl) ((Below.refl _ _).drew) ?_
        dsimp only [Array.toList]
        iterate 11
          with_reducible refine wpQuiet_step (fun K hK => ?_)
          go_simp
          first
            | (refine hK _ ?_; clear hK K)
            | (apply Exists.intro
               refine ⟨fun w' hw' => ?_, hK _ ?_⟩
               · obtain ⟨z0, z1, z2⟩ := hbox w' hw'
                 have M1 := HM w' hw'
                 have M2 := HN w' hw'
                 go_simp
                 first
                   | rfl
                   | (refine M1.mono ?_; rintro e w1 ⟨rfl, hb⟩; exact ⟨rfl, hw'.trans (hb.mono hw'.size)⟩)
                   | (refine M2.mono ?_; rintro e w1 ⟨rfl, hb⟩; exact ⟨rfl, hw'.trans (hb.mono hw'.size)⟩)
               clear hK K)
        refine wpQuiet_nil ?_
        intro W2 hW2
        have hB2 : Below w.heap.size w W2 := Below.on' hBV hW2
        clear hbox HM HN hW2
        go_wp2
        go_ret
        exact RV.mk (by rw [HF.out]; rfl) hB2
      · have g2 : memM (l.take k) x = false := by simpa using g2
        rw [g1] at HM
        rw [g2] at HN
        have HX' := Lib.hid (upto_step HX.out (by rw [HE.out, g1, g2]; rfl))
        clear HE HX g1 g2
        refine wp_region_quiet (C := fun w' => Below V.heap.size V w') (by kernel_rfl) (by kernel_rfl) ((Below.refl _ _).drew) ?_
        dsimp only [Array.toList]
        iterate 11
          with_reducible refine wpQuiet_step (fun K hK => ?_)
          go_simp
          first
            | (refine hK _ ?_; clear hK K)
            | (apply Exists.intro
               refine ⟨fun w' hw' => ?_, hK _ ?_⟩
               · obtain ⟨z0, z1, z2⟩ := hbox w' hw'
                 have M1 := HM w' hw'
                 have M2 := HN w' hw'
                 go_simp
                 first
                   | rfl
                   | (refine M1.mono ?_; rintro e w1 ⟨rfl, hb⟩; exact ⟨rfl, hw'.trans (hb.mono hw'.size)⟩)
                   | (refine M2.mono ?_; rintro e w1 ⟨rfl, hb⟩; exact ⟨rfl, hw'.trans (hb.mono hw'.size)⟩)
               clear hK K)
        refine wpQuiet_nil ?_
        intro W2 hW2
        have hB2 : Below w.heap.size w W2 := Below.on' hBV hW2
        clear hbox HM HN hW2
        go_wp2
        go_roundw
        case rel => exact ⟨k + 1, by omega, by go_num, HX', hB2⟩
        case measure => simp [intOf]; omega
    · obtain rfl : k = l.length := by omega
      have HE : Hid (someB l all = true) := Lib.hid (upto_all HX.out)
      clear HX
      go_wp2
      go_ret
      exact RV.mk (by rw [HE.out]; rfl) hB
theorem Msg.neql (x y : Msg) (w : World) : (binOp .neq 66 (.agg #[.string x.f, .int .i64 x.n, .string x.b]) (.agg #[.string y.f, .int .i64 y.n, .string y.b])).run Tryz.prog w = .ok (.bool (!Msg.eqB x y)) w := by
  go_simp
  by_cases q0 : x.f.toList = y.f.toList <;> by_cases q1 : x.n = y.n <;> by_cases q2 : x.b.toList = y.b.toList <;> simp [Msg.eqB, q0, q1, q2]
theorem withAt_none {l all : List Msg} {k : Nat} {x : Msg} (hx : l[k]? = some x) (hf : all.find? (keyP x.f x.n) = none) : withAt l all k = false := by simp [withAt, hx, hf]
theorem withAt_some {l all : List Msg} {k : Nat} {x y : Msg} (hx : l[k]? = some x) (hf : all.find? (keyP x.f x.n) = some y) : withAt l all k = (Msg.eqB y x && !(l.take k).any (keyP x.f x.n)) := by simp [withAt, hx, hf]
set_option maxRecDepth 100000 in
set_option maxHeartbeats 8000000 in
theorem raWithin_any (A : Option Addr) (c : Nat) (l : List Msg) (A2 : Option Addr) (cc : Nat) (all : List Msg) (w : World) (hl : l.length ≤ 1048576) (hc : l.length ≤ c) (hS : Msgs w 0 w.heap.size A l) (hl2 : all.length ≤ 1048576) (hS2 : Msgs w 0 w.heap.size A2 all) :
    Calls Tryz.prog 176 #[.slice A l.length c, .slice A2 all.length cc] w (RV w (.bool (withB l all))) := by
  go_enter Tryz.func176, Tryz.ntmps176
  go_wp2_with fail
  go_loopw [10] (fun i wr => ∃ k : Nat, k ≤ l.length ∧ i = .int .i64 k ∧ Hid (∀ i, i < k → withAt l all i = true) ∧ Below w.heap.size w wr) (fun i _ => l.length - (intOf i).toNat)
  case atStart => exact ⟨0, Nat.zero_le _, rfl, Lib.hid (fun i hi => absurd hi (Nat.not_lt_zero i)), Below.refl _ _⟩
  case round =>
    obtain ⟨k, hk, rfl, HX, hB⟩ := hrel
    have hz := hB.size
    by_cases hlt : k < l.length
    · obtain ⟨x, hx, _⟩ := get_lt hlt
      have Hx := Lib.hid hx
      have hSr := (hS.below hB)
      obtain ⟨b, off, rfl, _, _, _, hf⟩ := hSr.at_ hx
      have c0 : wr.cell? ⟨b, off + k * 3, none⟩ = some (.string x.f) := (hf 0 _ rfl).1
      have c1 : wr.cell? ⟨b, off + k * 3 + 1, none⟩ = some (.int .i64 x.n) := (hf 1 _ rfl).1
      have c2 : wr.cell? ⟨b, off + k * 3 + 2, none⟩ = some (.string x.b) := (hf 2 _ rfl).1
      clear hf hx
      have hS1 : Msgs wr 0 w.heap.size (some ⟨b, off, none⟩) (l.take k) := hSr.pre k
      have hbox0 : ∀ W, Below (wr.alloc (.cells #[.string x.f, .int .i64 x.n, .string x.b] 66)).heap.size (wr.alloc (.cells #[.string x.f, .int .i64 x.n, .string x.b] 66)) W → W.cell? ⟨wr.heap.size, 0, none⟩ = some (.string x.f) ∧ W.cell? ⟨wr.heap.size, 1, none⟩ = some (.int .i64 x.n) ∧ W.cell? ⟨wr.heap.size, 2, none⟩ = some (.string x.b) := fun W hb =>
        have H := fun t u hu => keep hb (new_cells (E := Msg.cells) wr 66 x _ rfl t u hu)
        ⟨H 0 _ rfl, H 1 _ rfl, H 2 _ rfl⟩
      go_wp2_with fail
      refine (raFind_any A2 cc all x.f x.n _ hl2 ((hS2.below hB).alloc _).all).mono ?_
      rintro e V ⟨rfl, hb⟩
      have hVr : Below wr.heap.size wr V := Below.on' (by go_grown) hb
      have hBV : Below w.heap.size w V := Below.on' hB hVr
      have hbox := fun W (h : Below V.heap.size V W) => hbox0 W (hb.trans (h.mono hb.size))
      have HN0 : ∀ W, Below V.heap.size V W → Calls Tryz.prog 127 #[.slice (some ⟨b, off, none⟩) k c, .string x.f, .int .i64 x.n] W (RV W (.int .i64 (idxG (keyP x.f x.n) (l.take k) 0))) := fun W hb => by
        have := raFind_any (some ⟨b, off, none⟩) c (l.take k) x.f x.n W (by rw [List.length_take]; omega) ((hS1.below hVr).below hb).all
        rw [List.length_take, Nat.min_eq_left (by omega)] at this
        exact this
      have hS2V := hS2.below hBV
      have hkc : k ≤ c := by omega
      clear hSr hS1 hb hVr hbox0 c0 c1 c2
      rcases find_idx (keyP x.f x.n) all 0 with ⟨e1, hf⟩ | ⟨j, y, hj, e1, hf, _⟩
      · have HF : Hid (withB l all = false) := Lib.hid (by rw [withB, upto_no hlt (withAt_none Hx.out hf)])
        rw [e1]
        clear e1 hf Hx HX
        have HN := HN0
        have hcls := hbox
        clear HN0 hbox
        go_wp2_with fail
        refine wp_region_quiet (C := fun w' => Below V.heap.size V w') (by kernel_rfl) (by kernel_rfl) ((Below.refl _ _).drew) ?_
        dsimp only [Array.toList]
        iterate 21
          with_reducible refine wpQuiet_step (fun K hK => ?_)
          go_simp
          first
            | (refine hK _ ?_; clear hK K)
            | (apply Exists.intro
               refine ⟨fun w' hw' => ?_, hK _ ?_⟩
               · obtain ⟨z0, z1, z2⟩ := hcls w' hw'
                 have M2 := HN w' hw'
                 have hqq : True := trivial
                 first
                   | (go_simp; rfl)
                   | (simp only [Sem.run] at hqq; exact hqq)
                   | (go_simp; refine M2.mono ?_; rintro e w1 ⟨rfl, hb⟩; exact ⟨rfl, hw'.trans (hb.mono hw'.size)⟩)
               clear hK K)
        refine wpQuiet_nil ?_
        intro W2 hW2
        have hB2 : Below w.heap.size w W2 := Below.on' hBV hW2
        clear hcls HN hW2
        go_wp2
        go_ret
        exact RV.mk (by rw [HF.out]; rfl) hB2
      · have HE := Lib.hid (withAt_some Hx.out hf)
        rw [e1]
        have hjl : j < all.length := (List.getElem?_eq_some_iff.1 hj).1
        obtain ⟨b2, off2, rfl, _, _, _, hg⟩ := hS2V.at_ hj
        have d0 : V.cell? ⟨b2, off2 + j * 3, none⟩ = some (.string y.f) := (hg 0 _ rfl).1
        have d1 : V.cell? ⟨b2, off2 + j * 3 + 1, none⟩ = some (.int .i64 y.n) := (hg 1 _ rfl).1
        have d2 : V.cell? ⟨b2, off2 + j * 3 + 2, none⟩ = some (.string y.b) := (hg 2 _ rfl).1
        rw [Nat.zero_add]
        have hcls := fun W (h : Below V.heap.size V W) => And.intro (hbox W h) (And.intro (keep h d0) (And.intro (keep h d1) (keep h d2)))
        have heq := Msg.neql y x
        clear e1 hf Hx hj hg hbox d0 d1 d2 hS2V
        by_cases g1 : Msg.eqB y x = true
        rotate_left
        · have g1 : Msg.eqB y x = false := by simpa using g1
          have HF : Hid (withB l all = false) := Lib.hid (by rw [withB, upto_no hlt (by rw [HE.out, g1]; rfl)])
          rw [g1] at heq
          have HN := HN0
          clear HE HX g1 HN0
          go_wp2_with fail
          refine wp_region_quiet (C := fun w' => Below V.heap.size V w') (by kernel_rfl) (by kernel_rfl) ((Below.refl _ _).drew) ?_
          dsimp only [Array.toList]
          iterate 21
            with_reducible refine wpQuiet_step (fun K hK => ?_)
            go_simp
            first
              | (refine hK _ ?_; clear hK K)
              | (apply Exists.intro
                 refine ⟨fun w' hw' => ?_, hK _ ?_⟩
                 · obtain ⟨⟨z0, z1, z2⟩, z3, z4, z5⟩ := hcls w' hw'
                   have M2 := HN w' hw'
                   have hqq := heq w'
                   first
                     | (go_simp; rfl)
                     | (simp only [Sem.run] at hqq; exact hqq)
                     | (go_simp; refine M2.mono ?_; rintro e w1 ⟨rfl, hb⟩; exact ⟨rfl, hw'.trans (hb.mono hw'.size)⟩)
                 clear hK K)
          refine wpQuiet_nil ?_
          intro W2 hW2
          have hB2 : Below w.heap.size w W2 := Below.on' hBV hW2
          clear hcls HN hW2 heq
          go_wp2
          go_ret
          exact RV.mk (by rw [HF.out]; rfl) hB2
        rcases find_idx (keyP x.f x.n) (l.take k) 0 with ⟨e2, hf2⟩ | ⟨j2, y2, hj2, e2, hf2, hp2⟩
        · have HX' := Lib.hid (upto_step HX.out (by
            rw [HE.out, g1]
            have : (l.take k).any (keyP x.f x.n) = false := by rw [← idxG_any, e2]; rfl
            rw [this]; rfl))
          rw [g1] at heq
          rw [e2] at HN0
          have HN := HN0
          clear HE HX g1 HN0 e2 hf2
          go_wp2_with fail
          refine wp_region_quiet (C := fun w' => Below V.heap.size V w') (by kernel_rfl) (by kernel_rfl) ((Below.refl _ _).drew) ?_
          dsimp only [Array.toList]
          iterate 21
            with_reducible refine wpQuiet_step (fun K hK => ?_)
            go_simp
            first
              | (refine hK _ ?_; clear hK K)
              | (apply Exists.intro
                 refine ⟨fun w' hw' => ?_, hK _ ?_⟩
                 · obtain ⟨⟨z0, z1, z2⟩, z3, z4, z5⟩ := hcls w' hw'
                   have M2 := HN w' hw'
                   have hqq := heq w'
                   first
                     | (go_simp; rfl)
                     | (simp only [Sem.run] at hqq; exact hqq)
                     | (go_simp; refine M2.mono ?_; rintro e w1 ⟨rfl, hb⟩; exact ⟨rfl, hw'.trans (hb.mono hw'.size)⟩)
                 clear hK K)
          refine wpQuiet_nil ?_
          intro W2 hW2
          have hB2 : Below w.heap.size w W2 := Below.on' hBV hW2
          clear hcls HN hW2 heq
          go_wp2
          go_roundw
          case rel => exact ⟨k + 1, by omega, by go_num, HX', hB2⟩
          case measure => simp [intOf]; omega
        · have HF : Hid (withB l all = false) := Lib.hid (by
            rw [withB, upto_no hlt]
            rw [HE.out, g1]
            have : (l.take k).any (keyP x.f x.n) = true := List.any_eq_true.2 ⟨y2, List.mem_of_getElem? hj2, hp2⟩
            rw [this]; rfl)
          rw [g1] at heq
          rw [e2, Nat.zero_add] at HN0
          have HN := HN0
          clear HE HX g1 HN0 e2 hf2 hj2 hp2
          go_wp2_with fail
          refine wp_region_quiet (C := fun w' => Below V.heap.size V w') (by kernel_rfl) (by kernel_rfl) ((Below.refl _ _).drew) ?_
          dsimp only [Array.toList]
          iterate 21
            with_reducible refine wpQuiet_step (fun K hK => ?_)
            go_simp
            first
              | (refine hK _ ?_; clear hK K)
              | (apply Exists.intro
                 refine ⟨fun w' hw' => ?_, hK _ ?_⟩
                 · obtain ⟨⟨z0, z1, z2⟩, z3, z4, z5⟩ := hcls w' hw'
                   have M2 := HN w' hw'
                   have hqq := heq w'
                   first
                     | (go_simp; rfl)
                     | (simp only [Sem.run] at hqq; exact hqq)
                     | (go_simp; refine M2.mono ?_; rintro e w1 ⟨rfl, hb⟩; exact ⟨rfl, hw'.trans (hb.mono hw'.size)⟩)
                 clear hK K)
          refine wpQuiet_nil ?_
          intro W2 hW2
          have hB2 : Below w.heap.size w W2 := Below.on' hBV hW2
          clear hcls HN hW2 heq
          go_wp2
          go_ret
          exact RV.mk (by rw [HF.out]; rfl) hB2
    · obtain rfl : k = l.length := by omega
      have HE : Hid (withB l all = true) := Lib.hid (upto_all HX.out)
      clear HX
      go_wp2
      go_ret
      exact RV.mk (by rw [HE.out]; rfl) hB
end Go.Proofs.YtianabfehonliaaGreatDoor
namespace Go.Proofs.YtianabfehonliaaGreatDoor
open Go.RowKit

theorem sentAt_eq {l : List Msg} {k : Nat} {xf xb : ByteArray} {xn : Int} (hx : l[k]? = some ⟨xf, xn, xb⟩) : sentAt l k = (msgB ⟨xf, xn, xb⟩ && decide (xn = (cntM (l.take k) xf : Int) + 1)) := by simp [sentAt, hx]
set_option maxRecDepth 100000 in
set_option maxHeartbeats 8000000 in
theorem raGood_any (As : Option Addr) (cs : Nat) (s : List Msg) (Ar : Option Addr) (cr : Nat) (r : List Msg) (Ah : Option Addr) (ch : Nat) (h : List Msg) (w : World) (hls : s.length ≤ 1048576) (hms : ∀ y ∈ s, y.f.size ≤ 1048576 ∧ y.b.size ≤ 1048576) (hSs : Msgs w 0 w.heap.size As s) (hcs : s.length ≤ cs) (hlr : r.length ≤ 1048576) (_hmr : ∀ y ∈ r, y.f.size ≤ 1048576 ∧ y.b.size ≤ 1048576) (hSr : Msgs w 0 w.heap.size Ar r) (hcr : r.length ≤ cr) (hlh : h.length ≤ 1048576) (_hmh : ∀ y ∈ h, y.f.size ≤ 1048576 ∧ y.b.size ≤ 1048576) (hSh : Msgs w 0 w.heap.size Ah h) (hch : h.length ≤ ch) :
    Calls Tryz.prog 117 #[.agg #[.slice As s.length cs, .slice Ar r.length cr, .slice Ah h.length ch]] w (RV w (.bool (chanB s r h))) := by
  rw [← chan_eq]
  have hX0 := B3.new w (.slice As s.length cs) (.slice Ar r.length cr) (.slice Ah h.length ch) 34 _ rfl
  obtain ⟨b0, b1, b2, _, _, _⟩ := id hX0
  go_enter Tryz.func117, Tryz.ntmps117
  go_wp2_with fail
  go_loopw [8] (fun i wr => ∃ k : Nat, k ≤ s.length ∧ i = .int .i64 k ∧ Hid (∀ i, i < k → sentAt s i = true) ∧ B3 w.heap.size (.slice As s.length cs) (.slice Ar r.length cr) (.slice Ah h.length ch) wr ∧ Below w.heap.size w wr) (fun i _ => s.length - (intOf i).toNat)
  case atStart => exact ⟨0, Nat.zero_le _, rfl, Lib.hid (fun i hi => absurd hi (Nat.not_lt_zero i)), hX0, by go_grown⟩
  case round =>
    obtain ⟨k, hk, rfl, HX, hX, hB⟩ := hrel
    clear hX0 b0 b1 b2
    have hz := hB.size
    have hlt0 := hX.lt
    by_cases hlt : k < s.length
    · obtain ⟨⟨xf, xn, xb⟩, hx, hxM⟩ := get_lt hlt
      have HE := Lib.hid (sentAt_eq hx)
      obtain ⟨hxf, hxb⟩ := hms _ hxM
      have hSr := (hSs.below hB)
      obtain ⟨b, off, rfl, _, _, _, hf⟩ := hSr.at_ hx
      have c0 : wr.cell? ⟨b, off + k * 3, none⟩ = some (.string xf) := (hf 0 _ rfl).1
      have c1 : wr.cell? ⟨b, off + k * 3 + 1, none⟩ = some (.int .i64 xn) := (hf 1 _ rfl).1
      have c2 : wr.cell? ⟨b, off + k * 3 + 2, none⟩ = some (.string xb) := (hf 2 _ rfl).1
      have hS1 : Msgs wr 0 w.heap.size (some ⟨b, off, none⟩) (s.take k) := hSr.pre k
      obtain ⟨x0, x1, x2, _, _, _⟩ := id hX
      have hXV := hX.alloc (.cells #[.string xf, .int .i64 xn, .string xb] 66)
      have hcls : ∀ W, Below (wr.alloc (.cells #[.string xf, .int .i64 xn, .string xb] 66)).heap.size (wr.alloc (.cells #[.string xf, .int .i64 xn, .string xb] 66)) W → W.cell? ⟨wr.heap.size, 0, none⟩ = some (.string xf) ∧ W.cell? ⟨wr.heap.size, 1, none⟩ = some (.int .i64 xn) ∧ W.cell? ⟨wr.heap.size, 2, none⟩ = some (.string xb) ∧ W.cell? ⟨w.heap.size, 0, none⟩ = some (.slice (some ⟨b, off, none⟩) s.length cs) := fun W hb =>
        have H := fun t u hu => keep hb (new_cells (E := Msg.cells) wr 66 ⟨xf, xn, xb⟩ _ rfl t u hu)
        ⟨H 0 _ rfl, H 1 _ rfl, H 2 _ rfl, (hXV.below hb).c0⟩
      have HM : ∀ W, Calls Tryz.prog 134 #[.agg #[.string xf, .int .i64 xn, .string xb]] W (RV W (.bool (msgB ⟨xf, xn, xb⟩))) := fun W => raOne_any ⟨xf, xn, xb⟩ W hxf hxb
      have HN : ∀ W, Below (wr.alloc (.cells #[.string xf, .int .i64 xn, .string xb] 66)).heap.size (wr.alloc (.cells #[.string xf, .int .i64 xn, .string xb] 66)) W → Calls Tryz.prog 170 #[.slice (some ⟨b, off, none⟩) k cs, .string xf] W (RV W (.int .i64 (cntM (s.take k) xf))) := fun W hb => by
        have := raCount_any (some ⟨b, off, none⟩) cs (s.take k) xf W (by rw [List.length_take]; omega) ((hS1.alloc _).below hb).all
        rw [List.length_take, Nat.min_eq_left (by omega)] at this
        exact this
      have hcv : cntM (s.take k) xf ≤ 1048576 := by have := cntM_le (s.take k) xf; rw [List.length_take] at this; omega
      generalize (cntM (s.take k) xf) = v at HE HN hcv
      have hw : IntKind.i64.wrap ((v : Int) + 1) = (v : Int) + 1 := IntWalk.i64_in _ (by omega)
      have hkc : k ≤ cs := by omega
      clear hf hx hxM hSr hS1 x0 x1 x2
      go_wp2_with fail
      generalize hV : wr.alloc (.cells #[.string xf, .int .i64 xn, .string xb] 66) = V at hcls HN hXV ⊢
      have hBV : Below w.heap.size w V := by rw [← hV]; go_grown
      clear c0 c1 c2
      by_cases g1 : msgB ⟨xf, xn, xb⟩ = true
      rotate_left
      · have g1 : msgB ⟨xf, xn, xb⟩ = false := by simpa using g1
        rw [g1] at HM
        have HF : Hid (chanW s r h = false) := Lib.hid (by rw [chanW, sentB, upto_no hlt (by rw [HE.out, g1]; rfl)]; rfl)
        clear HE HX g1
        go_wp2_with fail
        refine wp_region_quiet (C := fun w' => Below V.heap.size V w') (by kernel_rfl) (by kernel_rfl) ((Below.refl _ _).drew) ?_
        dsimp only [Array.toList]
        iterate 16
          with_reducible refine wpQuiet_step (fun K hK => ?_)
          go_simp
          first
            | (refine hK _ ?_; clear hK K)
            | (apply Exists.intro
               refine ⟨fun w' hw' => ?_, hK _ ?_⟩
               · obtain ⟨z0, z1, z2, z3⟩ := hcls w' hw'
                 have M1 := HM w'
                 have M2 := HN w' hw'
                 go_simp
                 first
                   | rfl
                   | (refine M1.mono ?_; rintro e w1 ⟨rfl, hb⟩; exact ⟨rfl, hw'.trans (hb.mono hw'.size)⟩)
                   | (refine M2.mono ?_; rintro e w1 ⟨rfl, hb⟩; exact ⟨rfl, hw'.trans (hb.mono hw'.size)⟩)
               clear hK K)
        refine wpQuiet_nil ?_
        intro W2 hW2
        have hB2 : Below w.heap.size w W2 := Below.on' hBV hW2
        have hX2 := hXV.below hW2
        clear hcls HM HN hW2 hXV
        go_wp2
        go_ret
        exact RV.mk (by rw [HF.out]; rfl) hB2
      by_cases g2 : xn = (v : Int) + 1
      · rw [g1] at HM
        have HX' := Lib.hid (upto_step HX.out (by rw [HE.out, g1, g2]; simp))
        clear HE HX g1
        subst g2
        go_wp2_with fail
        refine wp_region_quiet (C := fun w' => Below V.heap.size V w') (by kernel_rfl) (by kernel_rfl) ((Below.refl _ _).drew) ?_
        dsimp only [Array.toList]
        iterate 16
          with_reducible refine wpQuiet_step (fun K hK => ?_)
          go_simp
          first
            | (refine hK _ ?_; clear hK K)
            | (apply Exists.intro
               refine ⟨fun w' hw' => ?_, hK _ ?_⟩
               · obtain ⟨z0, z1, z2, z3⟩ := hcls w' hw'
                 have M1 := HM w'
                 have M2 := HN w' hw'
                 go_simp
                 first
                   | rfl
                   | (refine M1.mono ?_; rintro e w1 ⟨rfl, hb⟩; exact ⟨rfl, hw'.trans (hb.mono hw'.size)⟩)
                   | (refine M2.mono ?_; rintro e w1 ⟨rfl, hb⟩; exact ⟨rfl, hw'.trans (hb.mono hw'.size)⟩)
               clear hK K)
        refine wpQuiet_nil ?_
        intro W2 hW2
        have hB2 : Below w.heap.size w W2 := Below.on' hBV hW2
        have hX2 := hXV.below hW2
        clear hcls HM HN hW2 hXV
        go_wp2
        go_roundw
        case rel => exact ⟨k + 1, by omega, by go_num, HX', hX2, hB2⟩
        case measure => simp [intOf]; omega
      · rw [g1] at HM
        have HF : Hid (chanW s r h = false) := Lib.hid (by rw [chanW, sentB, upto_no hlt (by rw [HE.out, g1]; simpa using g2)]; rfl)
        clear HE HX g1
        go_wp2_with fail
        refine wp_region_quiet (C := fun w' => Below V.heap.size V w') (by kernel_rfl) (by kernel_rfl) ((Below.refl _ _).drew) ?_
        dsimp only [Array.toList]
        iterate 16
          with_reducible refine wpQuiet_step (fun K hK => ?_)
          go_simp
          first
            | (refine hK _ ?_; clear hK K)
            | (apply Exists.intro
               refine ⟨fun w' hw' => ?_, hK _ ?_⟩
               · obtain ⟨z0, z1, z2, z3⟩ := hcls w' hw'
                 have M1 := HM w'
                 have M2 := HN w' hw'
                 go_simp
                 first
                   | rfl
                   | (refine M1.mono ?_; rintro e w1 ⟨rfl, hb⟩; exact ⟨rfl, hw'.trans (hb.mono hw'.size)⟩)
                   | (refine M2.mono ?_; rintro e w1 ⟨rfl, hb⟩; exact ⟨rfl, hw'.trans (hb.mono hw'.size)⟩)
               clear hK K)
        refine wpQuiet_nil ?_
        intro W2 hW2
        have hB2 : Below w.heap.size w W2 := Below.on' hBV hW2
        have hX2 := hXV.below hW2
        clear hcls HM HN hW2 hXV
        go_wp2
        go_ret
        exact RV.mk (by rw [HF.out]; rfl) hB2
    · obtain rfl : k = s.length := by omega
      have HS : Hid (sentB s = true) := Lib.hid (upto_all HX.out)
      clear HX
      obtain ⟨x0, x1, x2, _, _, _⟩ := id hX
      by_cases g3 : (s.length : Int) ≤ 30
      rotate_left
      · have HF : Hid (chanW s r h = false) := Lib.hid (by
          have : decide (s.length ≤ 30) = false := by simp; omega
          rw [chanW, this]; simp)
        go_wp2
        go_ret
        exact RV.mk (by rw [HF.out]; rfl) hB
      have H3 : Hid (chanW s r h = (withB r s && withB h r)) := Lib.hid (by
        have : decide (s.length ≤ 30) = true := by simp; omega
        rw [chanW, this, HS.out]; simp)
      go_wp2_with fail
      refine (raWithin_any Ar cr r As cs s _ hlr hcr (hSr.below hB).all hls (hSs.below hB).all).mono ?_
      rintro e w1 ⟨rfl, hb⟩
      replace hX := hX.below hb
      have hB1 := Below.on' hB hb
      clear x0 x1 x2 hb
      obtain ⟨x0, x1, x2, _, _, _⟩ := id hX
      by_cases g4 : withB r s = true
      rotate_left
      · have g4 : withB r s = false := by simpa using g4
        rw [g4] at H3 ⊢
        go_wp2
        go_ret
        exact RV.mk (by rw [H3.out]; rfl) hB1
      rw [g4] at H3 ⊢
      go_wp2_with fail
      refine (raWithin_any Ah ch h Ar cr r _ hlh hch (hSh.below hB1).all hlr (hSr.below hB1).all).mono ?_
      rintro e w2 ⟨rfl, hb⟩
      have hB2 := Below.on' hB1 hb
      go_wp2
      go_ret
      exact RV.mk (by rw [H3.out, Bool.true_and]; rfl) hB2
end Go.Proofs.YtianabfehonliaaGreatDoor

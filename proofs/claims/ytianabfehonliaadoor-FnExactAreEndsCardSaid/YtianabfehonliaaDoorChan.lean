/- Channels in memory, and the law's own helpers over them. Conditions: lists and texts of at most 2^20; marks in 1 .. 50000000. -/
import Derived.Test.YtianabfehonliaaDoorMsgMk
import Derived.Test.YtianabfehonliaaDoorMsgArg
import Derived.Test.YtianabfehonliaaDoorPost
namespace Go.Proofs.YtianabfehonliaaDoor
open Go.RowKit

def okM (l : List Msg) : Prop := l.length ≤ 1048576 ∧ ∀ x ∈ l, x.f.size ≤ 1048576 ∧ x.b.size ≤ 1048576
theorem cells3 {w : World} {a b c : Value} {T : TypeId} : (w.alloc (.cells #[a, b, c] T)).cell? ⟨w.heap.size, 0, none⟩ = some a ∧ (w.alloc (.cells #[a, b, c] T)).cell? ⟨w.heap.size, 1, none⟩ = some b ∧ (w.alloc (.cells #[a, b, c] T)).cell? ⟨w.heap.size, 2, none⟩ = some c := ⟨by simp, by simp, by simp⟩
set_option maxHeartbeats 1000000 in
theorem szChannel_any (As : Option Addr) (cs : Nat) (s : List Msg) (Ar : Option Addr) (cr : Nat) (r : List Msg) (Ah : Option Addr) (ch : Nat) (h : List Msg) (left : Int) (w : World) (hls : s.length ≤ maxLen) (hms : ∀ y ∈ s, y.f.size ≤ maxLen ∧ y.b.size ≤ maxLen) (hSs : Msgs w 0 w.heap.size As s) (hlr : r.length ≤ maxLen) (hmr : ∀ y ∈ r, y.f.size ≤ maxLen ∧ y.b.size ≤ maxLen) (hSr : Msgs w 0 w.heap.size Ar r) (hlh : h.length ≤ maxLen) (hmh : ∀ y ∈ h, y.f.size ≤ maxLen ∧ y.b.size ≤ maxLen) (hSh : Msgs w 0 w.heap.size Ah h) (h0 : 0 ≤ left) (h1 : left ≤ 1048576) :
    Calls Tryd.prog 22 #[.agg #[.slice As s.length cs, .slice Ar r.length cr, .slice Ah h.length ch], .int .i64 left] w fun e w' => ∃ q : Int, e = .returned (.int .i64 q) ∧ q ≤ left ∧ (0 ≤ q → okM s ∧ okM r ∧ okM h) ∧ Below w.heap.size w w' := by
  obtain ⟨b0, b1, b2⟩ := cells3 (w := w) (a := .slice As s.length cs) (b := .slice Ar r.length cr) (c := .slice Ah h.length ch) (T := 31)
  go_enter Tryd.func22, Tryd.ntmps22
  go_wp2_with fail
  refine (szMessageS_any As cs s left _ hls hms (hSs.alloc _).all (by omega) (by omega)).mono ?_
  rintro e w1 ⟨qs, rfl, hqs, hrs, hb⟩
  replace b0 : w1.cell? ⟨w.heap.size, 0, none⟩ = some (.slice As s.length cs) := keep hb b0
  replace b1 : w1.cell? ⟨w.heap.size, 1, none⟩ = some (.slice Ar r.length cr) := keep hb b1
  replace b2 : w1.cell? ⟨w.heap.size, 2, none⟩ = some (.slice Ah h.length ch) := keep hb b2
  have hB1 : Below w.heap.size w w1 := Below.on' (by go_grown) hb
  have z1 := hB1.size
  clear hb
  by_cases ns : qs < 0
  · go_wp2
    go_ret
    exact ⟨-1, rfl, by omega, by omega, hB1⟩
  go_wp2_with fail
  refine (szMessageS_any Ar cr r qs _ hlr hmr (hSr.below hB1).all (by omega) (by omega)).mono ?_
  rintro e w2 ⟨qr, rfl, hqr, hrr, hb⟩
  replace b0 : w2.cell? ⟨w.heap.size, 0, none⟩ = some (.slice As s.length cs) := keep hb b0
  replace b1 : w2.cell? ⟨w.heap.size, 1, none⟩ = some (.slice Ar r.length cr) := keep hb b1
  replace b2 : w2.cell? ⟨w.heap.size, 2, none⟩ = some (.slice Ah h.length ch) := keep hb b2
  have hB2 : Below w.heap.size w w2 := Below.on' hB1 hb
  have z2 := hb.size
  clear hb
  by_cases nr : qr < 0
  · go_wp2
    go_ret
    exact ⟨-1, rfl, by omega, by omega, hB2⟩
  go_wp2_with fail
  refine (szMessageS_any Ah ch h qr _ hlh hmh (hSh.below hB2).all (by omega) (by omega)).mono ?_
  rintro e w3 ⟨qh, rfl, hqh, hrh, hb⟩
  replace b0 : w3.cell? ⟨w.heap.size, 0, none⟩ = some (.slice As s.length cs) := keep hb b0
  replace b1 : w3.cell? ⟨w.heap.size, 1, none⟩ = some (.slice Ar r.length cr) := keep hb b1
  replace b2 : w3.cell? ⟨w.heap.size, 2, none⟩ = some (.slice Ah h.length ch) := keep hb b2
  have hB3 : Below w.heap.size w w3 := Below.on' hB2 hb
  have z3 := hb.size
  clear hb
  by_cases nh : qh < 0
  · go_wp2
    go_ret
    exact ⟨-1, rfl, by omega, by omega, hB3⟩
  go_wp2
  go_ret
  exact ⟨qh, rfl, by omega, fun _ => ⟨hrs (by omega), hrr (by omega), hrh (by omega)⟩, hB3⟩
set_option maxHeartbeats 1000000 in
theorem eqChannel_same (As As2 : Option Addr) (cs cs2 : Nat) (s : List Msg) (los his los2 his2 : Nat) (Ar Ar2 : Option Addr) (cr cr2 : Nat) (r : List Msg) (lor hir lor2 hir2 : Nat) (Ah Ah2 : Option Addr) (ch ch2 : Nat) (h : List Msg) (loh hih loh2 hih2 : Nat) (w : World) (hls : s.length ≤ 1048576) (hSs : Msgs w los his As s) (hSs2 : Msgs w los2 his2 As2 s) (hlr : r.length ≤ 1048576) (hSr : Msgs w lor hir Ar r) (hSr2 : Msgs w lor2 hir2 Ar2 r) (hlh : h.length ≤ 1048576) (hSh : Msgs w loh hih Ah h) (hSh2 : Msgs w loh2 hih2 Ah2 h) :
    Calls Tryd.prog 28 #[.agg #[.slice As s.length cs, .slice Ar r.length cr, .slice Ah h.length ch], .agg #[.slice As2 s.length cs2, .slice Ar2 r.length cr2, .slice Ah2 h.length ch2]] w (RV w (.bool true)) := by
  obtain ⟨b0, b1, b2⟩ := cells3 (w := w) (a := .slice As s.length cs) (b := .slice Ar r.length cr) (c := .slice Ah h.length ch) (T := 39)
  have e1 : (w.alloc (.cells #[.slice As s.length cs, .slice Ar r.length cr, .slice Ah h.length ch] 39)).heap.size = w.heap.size + 1 := by simp
  obtain ⟨d0, d1, d2⟩ := cells3 (w := w.alloc (.cells #[.slice As s.length cs, .slice Ar r.length cr, .slice Ah h.length ch] 39)) (a := .slice As2 s.length cs2) (b := .slice Ar2 r.length cr2) (c := .slice Ah2 h.length ch2) (T := 39)
  rw [e1] at d0 d1 d2
  replace b0 := lay (.cells #[.slice As2 s.length cs2, .slice Ar2 r.length cr2, .slice Ah2 h.length ch2] 39) b0
  replace b1 := lay (.cells #[.slice As2 s.length cs2, .slice Ar2 r.length cr2, .slice Ah2 h.length ch2] 39) b1
  replace b2 := lay (.cells #[.slice As2 s.length cs2, .slice Ar2 r.length cr2, .slice Ah2 h.length ch2] 39) b2
  go_enter Tryd.func28, Tryd.ntmps28
  go_wp2_with fail
  refine (eqMessageS_same As As2 cs cs2 _ _ _ _ s _ hls ((hSs.alloc _).alloc _) ((hSs2.alloc _).alloc _)).mono ?_
  rintro e w1 ⟨rfl, hb⟩
  replace b0 : w1.cell? ⟨w.heap.size, 0, none⟩ = some (.slice As s.length cs) := keep hb b0
  replace b1 : w1.cell? ⟨w.heap.size, 1, none⟩ = some (.slice Ar r.length cr) := keep hb b1
  replace b2 : w1.cell? ⟨w.heap.size, 2, none⟩ = some (.slice Ah h.length ch) := keep hb b2
  replace d0 : w1.cell? ⟨w.heap.size + 1, 0, none⟩ = some (.slice As2 s.length cs2) := keep hb d0
  replace d1 : w1.cell? ⟨w.heap.size + 1, 1, none⟩ = some (.slice Ar2 r.length cr2) := keep hb d1
  replace d2 : w1.cell? ⟨w.heap.size + 1, 2, none⟩ = some (.slice Ah2 h.length ch2) := keep hb d2
  have hB1 : Below w.heap.size w w1 := Below.on' (by go_grown) hb
  have z1 := hB1.size
  clear hb
  go_wp2_with fail
  refine (eqMessageS_same Ar Ar2 cr cr2 _ _ _ _ r _ hlr (hSr.below hB1) (hSr2.below hB1)).mono ?_
  rintro e w2 ⟨rfl, hb⟩
  replace b0 : w2.cell? ⟨w.heap.size, 0, none⟩ = some (.slice As s.length cs) := keep hb b0
  replace b1 : w2.cell? ⟨w.heap.size, 1, none⟩ = some (.slice Ar r.length cr) := keep hb b1
  replace b2 : w2.cell? ⟨w.heap.size, 2, none⟩ = some (.slice Ah h.length ch) := keep hb b2
  replace d0 : w2.cell? ⟨w.heap.size + 1, 0, none⟩ = some (.slice As2 s.length cs2) := keep hb d0
  replace d1 : w2.cell? ⟨w.heap.size + 1, 1, none⟩ = some (.slice Ar2 r.length cr2) := keep hb d1
  replace d2 : w2.cell? ⟨w.heap.size + 1, 2, none⟩ = some (.slice Ah2 h.length ch2) := keep hb d2
  have hB2 : Below w.heap.size w w2 := Below.on' hB1 hb
  have z2 := hb.size
  clear hb
  go_wp2_with fail
  refine (eqMessageS_same Ah Ah2 ch ch2 _ _ _ _ h _ hlh (hSh.below hB2) (hSh2.below hB2)).mono ?_
  rintro e w3 ⟨rfl, hb⟩
  replace b0 : w3.cell? ⟨w.heap.size, 0, none⟩ = some (.slice As s.length cs) := keep hb b0
  replace b1 : w3.cell? ⟨w.heap.size, 1, none⟩ = some (.slice Ar r.length cr) := keep hb b1
  replace b2 : w3.cell? ⟨w.heap.size, 2, none⟩ = some (.slice Ah h.length ch) := keep hb b2
  replace d0 : w3.cell? ⟨w.heap.size + 1, 0, none⟩ = some (.slice As2 s.length cs2) := keep hb d0
  replace d1 : w3.cell? ⟨w.heap.size + 1, 1, none⟩ = some (.slice Ar2 r.length cr2) := keep hb d1
  replace d2 : w3.cell? ⟨w.heap.size + 1, 2, none⟩ = some (.slice Ah2 h.length ch2) := keep hb d2
  have hB3 : Below w.heap.size w w3 := Below.on' hB2 hb
  have z3 := hb.size
  clear hb
  go_wp2
  go_ret
  exact RV.mk rfl hB3
/-- A box of three values. -/
structure B3 (b : Nat) (x y z : Value) (X : World) : Prop where
  c0 : X.cell? ⟨b, 0, none⟩ = some x
  c1 : X.cell? ⟨b, 1, none⟩ = some y
  c2 : X.cell? ⟨b, 2, none⟩ = some z
  f0 : X.frozen? ⟨b, 0, none⟩ = false
  f1 : X.frozen? ⟨b, 1, none⟩ = false
  f2 : X.frozen? ⟨b, 2, none⟩ = false
section
variable {b : Nat} {x y z : Value} {X X' : World}
theorem B3.lt (a : B3 b x y z X) : b < X.heap.size := World.block_lt_of_cell? _ _ a.c0
theorem B3.upto {B : Nat} (a : B3 b x y z X) (hB : b < B) (hb : Below B X X') : B3 b x y z X' :=
  have h0 : ∀ o, X'.cell? ⟨b, o, none⟩ = X.cell? ⟨b, o, none⟩ := fun o => hb.cell (p := ⟨b, o, none⟩) hB
  have k0 : ∀ o, X'.frozen? ⟨b, o, none⟩ = X.frozen? ⟨b, o, none⟩ := fun o => hb.frozen (p := ⟨b, o, none⟩) hB
  ⟨(h0 0).trans a.c0, (h0 1).trans a.c1, (h0 2).trans a.c2, (k0 0).trans a.f0, (k0 1).trans a.f1, (k0 2).trans a.f2⟩
theorem B3.below (a : B3 b x y z X) (hb : Below X.heap.size X X') : B3 b x y z X' := a.upto a.lt hb
theorem B3.alloc (a : B3 b x y z X) (o : Obj) : B3 b x y z (X.alloc o) := a.below ((Below.refl _ _).alloc (Nat.le_refl _) o)
theorem B3.new (w : World) (x y z : Value) (T : TypeId) (n : Nat) (hn : n = w.heap.size) : B3 n x y z (w.alloc (.cells #[x, y, z] T)) := by
  subst hn
  exact ⟨by simp, by simp, by simp, World.frozen?_alloc_at _ _ _ _ rfl, World.frozen?_alloc_at _ _ _ _ rfl, World.frozen?_alloc_at _ _ _ _ rfl⟩
theorem B3.off (a : B3 b x y z X) {p : Addr} (hp : p.block ≠ b) (v : Value) : B3 b x y z (X.setCell p v) :=
  ⟨unset a.c0 hp, unset a.c1 hp, unset a.c2 hp, (World.frozen?_setCell ..).trans a.f0, (World.frozen?_setCell ..).trans a.f1, (World.frozen?_setCell ..).trans a.f2⟩
theorem B3.set0 (a : B3 b x y z X) (v : Value) : B3 b v y z (X.setCell ⟨b, 0, none⟩ v) :=
  ⟨World.cell?_setCell_same _ _ _ a.c0, (World.cell?_setCell_other _ _ _ _ (by simp)).trans a.c1, (World.cell?_setCell_other _ _ _ _ (by simp)).trans a.c2, (World.frozen?_setCell ..).trans a.f0, (World.frozen?_setCell ..).trans a.f1, (World.frozen?_setCell ..).trans a.f2⟩
theorem B3.set1 (a : B3 b x y z X) (v : Value) : B3 b x v z (X.setCell ⟨b, 1, none⟩ v) :=
  ⟨(World.cell?_setCell_other _ _ _ _ (by simp)).trans a.c0, World.cell?_setCell_same _ _ _ a.c1, (World.cell?_setCell_other _ _ _ _ (by simp)).trans a.c2, (World.frozen?_setCell ..).trans a.f0, (World.frozen?_setCell ..).trans a.f1, (World.frozen?_setCell ..).trans a.f2⟩
theorem B3.set2 (a : B3 b x y z X) (v : Value) : B3 b x y v (X.setCell ⟨b, 2, none⟩ v) :=
  ⟨(World.cell?_setCell_other _ _ _ _ (by simp)).trans a.c0, (World.cell?_setCell_other _ _ _ _ (by simp)).trans a.c1, World.cell?_setCell_same _ _ _ a.c2, (World.frozen?_setCell ..).trans a.f0, (World.frozen?_setCell ..).trans a.f1, (World.frozen?_setCell ..).trans a.f2⟩
theorem B3.out (a : B3 b x y z X) (v0 v1 v2 : Value) : (X.setCell ⟨b, 0, none⟩ v0).cell? ⟨b, 0, none⟩ = some v0 ∧ ((X.setCell ⟨b, 0, none⟩ v0).setCell ⟨b, 1, none⟩ v1).cell? ⟨b, 1, none⟩ = some v1 ∧ (((X.setCell ⟨b, 0, none⟩ v0).setCell ⟨b, 1, none⟩ v1).setCell ⟨b, 2, none⟩ v2).cell? ⟨b, 2, none⟩ = some v2 :=
  ⟨(a.set0 v0).c0, ((a.set0 v0).set1 v1).c1, (((a.set0 v0).set1 v1).set2 v2).c2⟩
end
theorem Fr.wide {lo hi lo' hi' : Nat} {w w' : World} (h : Fr lo hi w w') (h1 : lo' ≤ lo) (h2 : hi ≤ hi') : Fr lo' hi' w w' := ⟨h.os, h.tape, h.output, h.size, fun b hb hn => h.block b hb (by omega)⟩
set_option maxHeartbeats 4000000 in
theorem toChannel_any (As : Option Addr) (cs : Nat) (s : List Msg) (Ar : Option Addr) (cr : Nat) (r : List Msg) (Ah : Option Addr) (ch : Nat) (h : List Msg) (w : World) (hls : s.length ≤ 1048576) (hSs : Msgs w 0 w.heap.size As s) (hlr : r.length ≤ 1048576) (hSr : Msgs w 0 w.heap.size Ar r) (hlh : h.length ≤ 1048576) (hSh : Msgs w 0 w.heap.size Ah h) :
    Calls Tryd.prog 25 #[.agg #[.slice As s.length cs, .slice Ar r.length cr, .slice Ah h.length ch]] w fun e w' => ∃ g1 g2 g3 m1 m2, e = .returned (.agg #[.slice (some ⟨g1, 0, none⟩) s.length s.length, .slice (some ⟨g2, 0, none⟩) r.length r.length, .slice (some ⟨g3, 0, none⟩) h.length h.length]) ∧ w.heap.size ≤ m1 ∧ m1 ≤ m2 ∧ m2 ≤ w'.heap.size ∧ Msgs w' w.heap.size m1 (some ⟨g1, 0, none⟩) s ∧ Msgs w' m1 m2 (some ⟨g2, 0, none⟩) r ∧ Msgs w' m2 w'.heap.size (some ⟨g3, 0, none⟩) h ∧ Below w.heap.size w w' := by
  have e1 : (w.alloc (.cells #[.slice As s.length cs, .slice Ar r.length cr, .slice Ah h.length ch] 31)).heap.size = w.heap.size + 1 := by simp
  have e2 : ((w.alloc (.cells #[.slice As s.length cs, .slice Ar r.length cr, .slice Ah h.length ch] 31)).alloc (.cells #[.slice none 0 0, .slice none 0 0, .slice none 0 0] 39)).heap.size = w.heap.size + 2 := by simp
  have X1 := ((B3.new w (.slice As s.length cs) (.slice Ar r.length cr) (.slice Ah h.length ch) 31 _ rfl).alloc (.cells #[.slice none 0 0, .slice none 0 0, .slice none 0 0] 39)).alloc (.cells #[.slice none 0 0, .slice none 0 0, .slice none 0 0] 39)
  have X2 := (B3.new (w.alloc (.cells #[.slice As s.length cs, .slice Ar r.length cr, .slice Ah h.length ch] 31)) (.slice none 0 0) (.slice none 0 0) (.slice none 0 0) 39 (w.heap.size + 1) e1.symm).alloc (.cells #[.slice none 0 0, .slice none 0 0, .slice none 0 0] 39)
  have X3 := B3.new ((w.alloc (.cells #[.slice As s.length cs, .slice Ar r.length cr, .slice Ah h.length ch] 31)).alloc (.cells #[.slice none 0 0, .slice none 0 0, .slice none 0 0] 39)) (.slice none 0 0) (.slice none 0 0) (.slice none 0 0) 39 (w.heap.size + 2) e2.symm
  have b0 := X1.c0
  go_enter Tryd.func25, Tryd.ntmps25
  go_wp2_with fail
  refine (toMessageS_any As cs s _ hls (((hSs.alloc _).alloc _).alloc _).all).mono ?_
  rintro e w1 ⟨g1, rfl, hU1, hb⟩
  have hB1 : Below w.heap.size w w1 := Below.on' (by go_grown) hb
  have T1 := hU1.mono (lo' := w.heap.size + 3) (hi' := w1.heap.size) (by simp) (Nat.le_refl _) (Nat.le_refl _)
  replace X1 := X1.below hb
  replace X2 := X2.below hb
  replace X3 := X3.below hb
  have z1 := X3.lt
  clear hb hU1 b0 e1 e2
  have Y1 := X1.off (p := ⟨w.heap.size + 2, 0, none⟩) (by simp) (.slice (some ⟨g1, 0, none⟩) s.length s.length)
  have Y2 := X2.off (p := ⟨w.heap.size + 2, 0, none⟩) (by simp) (.slice (some ⟨g1, 0, none⟩) s.length s.length)
  have Y3 := X3.set0 (.slice (some ⟨g1, 0, none⟩) s.length s.length)
  have hF : Fr (w.heap.size + 2) (w.heap.size + 3) w1 (w1.setCell ⟨w.heap.size + 2, 0, none⟩ (.slice (some ⟨g1, 0, none⟩) s.length s.length)) := (Fr.refl _ _ _).setCell ⟨by simp, by simp⟩ _
  replace T1 := T1.fr hF (by omega)
  have hBs : Below w.heap.size w (w1.setCell ⟨w.heap.size + 2, 0, none⟩ (.slice (some ⟨g1, 0, none⟩) s.length s.length)) := hB1.trans (hF.below (by omega) (by omega))
  have y2 := Y1.c1
  obtain ⟨a0, a1, a2, f0, f1, f2⟩ := id X3
  clear hF
  go_wp2_with fail
  refine (toMessageS_any Ar cr r _ hlr (hSr.below hBs).all).mono ?_
  rintro e w2 ⟨g2, rfl, hU, hb⟩
  have hB2 : Below w.heap.size w w2 := Below.on' hBs hb
  have T2 := hU.mono (lo' := w1.heap.size) (hi' := w2.heap.size) (by simp) (Nat.le_refl _) (Nat.le_refl _)
  have z2 : w1.heap.size ≤ w2.heap.size := by have := hb.size; simpa using this
  replace T1 := T1.below hb
  replace X1 := Y1.below hb
  replace X2 := Y2.below hb
  replace X3 := Y3.below hb
  clear hb hU y2 Y1 Y2 Y3 hBs a0 a1 a2 f0 f1 f2
  have Y1 := X1.off (p := ⟨w.heap.size + 2, 1, none⟩) (by simp) (.slice (some ⟨g2, 0, none⟩) r.length r.length)
  have Y2 := X2.off (p := ⟨w.heap.size + 2, 1, none⟩) (by simp) (.slice (some ⟨g2, 0, none⟩) r.length r.length)
  have Y3 := X3.set1 (.slice (some ⟨g2, 0, none⟩) r.length r.length)
  have hF : Fr (w.heap.size + 2) (w.heap.size + 3) w2 (w2.setCell ⟨w.heap.size + 2, 1, none⟩ (.slice (some ⟨g2, 0, none⟩) r.length r.length)) := (Fr.refl _ _ _).setCell ⟨by simp, by simp⟩ _
  replace T1 := T1.fr hF (by omega)
  replace T2 := T2.fr hF (by omega)
  have hBs : Below w.heap.size w (w2.setCell ⟨w.heap.size + 2, 1, none⟩ (.slice (some ⟨g2, 0, none⟩) r.length r.length)) := hB2.trans (hF.below (by omega) (by omega))
  have y3 := Y1.c2
  obtain ⟨a0, a1, a2, f0, f1, f2⟩ := id X3
  clear hF
  go_wp2_with fail
  refine (toMessageS_any Ah ch h _ hlh (hSh.below hBs).all).mono ?_
  rintro e w3 ⟨g3, rfl, hU, hb⟩
  have hB3 : Below w.heap.size w w3 := Below.on' hBs hb
  have T3 := hU.mono (lo' := w2.heap.size) (hi' := w3.heap.size) (by simp) (Nat.le_refl _) (Nat.le_refl _)
  have z3 : w2.heap.size ≤ w3.heap.size := by have := hb.size; simpa using this
  replace T1 := T1.below hb
  replace T2 := T2.below hb
  replace X1 := Y1.below hb
  replace X2 := Y2.below hb
  replace X3 := Y3.below hb
  clear hb hU y3 Y1 Y2 Y3 hBs a0 a1 a2 f0 f1 f2
  have Y2 := X2.off (p := ⟨w.heap.size + 2, 2, none⟩) (by simp) (.slice (some ⟨g3, 0, none⟩) h.length h.length)
  have Y3 := X3.set2 (.slice (some ⟨g3, 0, none⟩) h.length h.length)
  obtain ⟨a0, a1, a2, f0, f1, f2⟩ := id X3
  obtain ⟨k0, k1, k2, l0, l1, l2⟩ := id Y3
  obtain ⟨m0, m1, m2, n0, n1, n2⟩ := id Y2
  obtain ⟨y0, y1, y2⟩ := Y2.out (.slice (some ⟨g1, 0, none⟩) s.length s.length) (.slice (some ⟨g2, 0, none⟩) r.length r.length) (.slice (some ⟨g3, 0, none⟩) h.length h.length)
  have hF : Fr (w.heap.size + 1) (w.heap.size + 3) w3 ((((w3.setCell ⟨w.heap.size + 2, 2, none⟩ (.slice (some ⟨g3, 0, none⟩) h.length h.length)).setCell ⟨w.heap.size + 1, 0, none⟩ (.slice (some ⟨g1, 0, none⟩) s.length s.length)).setCell ⟨w.heap.size + 1, 1, none⟩ (.slice (some ⟨g2, 0, none⟩) r.length r.length)).setCell ⟨w.heap.size + 1, 2, none⟩ (.slice (some ⟨g3, 0, none⟩) h.length h.length)) := ((((Fr.refl _ _ _).setCell ⟨by simp, by simp⟩ _).setCell ⟨by simp, by simp⟩ _).setCell ⟨by simp, by simp⟩ _).setCell ⟨by simp, by simp⟩ _
  replace T1 := T1.fr hF (by omega)
  replace T2 := T2.fr hF (by omega)
  replace T3 := T3.fr hF (by omega)
  have hB4 : Below w.heap.size w ((((w3.setCell ⟨w.heap.size + 2, 2, none⟩ (.slice (some ⟨g3, 0, none⟩) h.length h.length)).setCell ⟨w.heap.size + 1, 0, none⟩ (.slice (some ⟨g1, 0, none⟩) s.length s.length)).setCell ⟨w.heap.size + 1, 1, none⟩ (.slice (some ⟨g2, 0, none⟩) r.length r.length)).setCell ⟨w.heap.size + 1, 2, none⟩ (.slice (some ⟨g3, 0, none⟩) h.length h.length)) := hB3.trans (hF.below (by omega) (by omega))
  clear hF X1 X2 X3 Y2 Y3
  go_wp2
  refine bodyPost_ret (by simp [results, Tryd.results25, go_sem, y0, y1, y2]; try rfl) rfl ?_
  exact ⟨g1, g2, g3, w1.heap.size, w2.heap.size, rfl, by omega, z2, by simpa using z3, T1.mono (by omega) (Nat.le_refl _) (by simp; omega), T2.mono (Nat.le_refl _) (Nat.le_refl _) (by simp; omega), T3.mono (Nat.le_refl _) (by simp) (Nat.le_refl _), hB4⟩
end Go.Proofs.YtianabfehonliaaDoor

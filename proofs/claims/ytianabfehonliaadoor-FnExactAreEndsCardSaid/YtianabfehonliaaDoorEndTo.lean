/- Ends sized and copied. Condition of the copy: at most 2^20 in each list. -/
import Derived.Test.YtianabfehonliaaDoorEndArg
namespace Go.Proofs.YtianabfehonliaaDoor
open Go.RowKit

def okA (l : List App) : Prop := l.length ≤ 1048576 ∧ ∀ x ∈ l, x.nm.size ≤ 1048576
theorem BN.off {b : Nat} {vs : List Value} {X : World} (a : BN b vs X) {p : Addr} (hp : p.block ≠ b) (v : Value) : BN b vs (X.setCell p v) := fun j u e => ⟨unset (a j u e).1 hp, (World.frozen?_setCell ..).trans (a j u e).2⟩
theorem BN.put {b : Nat} {vs : List Value} {X : World} (a : BN b vs X) {i : Nat} {u : Value} (hi : vs[i]? = some u) (v : Value) : BN b (vs.set i v) (X.setCell ⟨b, i, none⟩ v) := fun j z e => by
  refine ⟨?_, (World.frozen?_setCell ..).trans ?_⟩
  · by_cases q : i = j
    · subst q
      rw [List.getElem?_set_self (List.getElem?_eq_some_iff.1 hi).1] at e
      obtain rfl := Option.some.inj e
      exact World.cell?_setCell_same _ _ _ (a i u hi).1
    · rw [List.getElem?_set_ne q] at e
      exact (World.cell?_setCell_other _ _ _ _ (fun e => q (by injection e))).trans (a j z e).1
  · by_cases q : i = j
    · subst q; exact (a i u hi).2
    · rw [List.getElem?_set_ne q] at e; exact (a j z e).2
set_option maxHeartbeats 2000000 in
theorem szEnds_any (Af : Option Addr) (cf : Nat) (f : List App) (An : Option Addr) (cn : Nat) (n : List App) (As : Option Addr) (cs : Nat) (s : List Msg) (Ar : Option Addr) (cr : Nat) (r : List Msg) (Ah : Option Addr) (ch : Nat) (h : List Msg) (left : Int) (w : World) (hlf : f.length ≤ maxLen) (hmf : ∀ y ∈ f, y.nm.size ≤ maxLen) (hSf : Apps w 0 w.heap.size Af f) (hln : n.length ≤ maxLen) (hmn : ∀ y ∈ n, y.nm.size ≤ maxLen) (hSn : Apps w 0 w.heap.size An n) (hls : s.length ≤ maxLen) (hms : ∀ y ∈ s, y.f.size ≤ maxLen ∧ y.b.size ≤ maxLen) (hSs : Msgs w 0 w.heap.size As s) (hlr : r.length ≤ maxLen) (hmr : ∀ y ∈ r, y.f.size ≤ maxLen ∧ y.b.size ≤ maxLen) (hSr : Msgs w 0 w.heap.size Ar r) (hlh : h.length ≤ maxLen) (hmh : ∀ y ∈ h, y.f.size ≤ maxLen ∧ y.b.size ≤ maxLen) (hSh : Msgs w 0 w.heap.size Ah h) (h0 : 0 ≤ left) (h1 : left ≤ 1048576) :
    Calls Tryd.prog 8 #[.agg #[.slice Af f.length cf, .slice An n.length cn, .slice As s.length cs, .slice Ar r.length cr, .slice Ah h.length ch], .int .i64 left] w fun e w' => ∃ q : Int, e = .returned (.int .i64 q) ∧ q ≤ left ∧ (0 ≤ q → okA f ∧ okA n ∧ okM s ∧ okM r ∧ okM h) ∧ Below w.heap.size w w' := by
  have hX := cells5.new w (.slice Af f.length cf) (.slice An n.length cn) (.slice As s.length cs) (.slice Ar r.length cr) (.slice Ah h.length ch) 33 _ rfl
  have hB : Below w.heap.size w (w.alloc (.cells #[.slice Af f.length cf, .slice An n.length cn, .slice As s.length cs, .slice Ar r.length cr, .slice Ah h.length ch] 33)) := by go_grown
  obtain ⟨b0, b1, b2, b3, b4⟩ := id hX
  go_enter Tryd.func8, Tryd.ntmps8
  go_wp2_with fail
  refine (szApplianceS_any Af cf f left _ hlf hmf (hSf.below hB).all (by omega) (by omega)).mono ?_
  rintro e w1 ⟨qf, rfl, hqf, hrf, hb⟩
  replace hX := hX.below hb
  replace hB := Below.on' hB hb
  clear b0 b1 b2 b3 b4 hb
  obtain ⟨b0, b1, b2, b3, b4⟩ := id hX
  have k1 := hX.lt
  by_cases nf : qf < 0
  · go_wp2
    go_ret
    exact ⟨-1, rfl, by omega, by omega, hB⟩
  go_wp2_with fail
  refine (szApplianceS_any An cn n qf _ hln hmn (hSn.below hB).all (by omega) (by omega)).mono ?_
  rintro e w2 ⟨qn, rfl, hqn, hrn, hb⟩
  replace hX := hX.below hb
  replace hB := Below.on' hB hb
  clear b0 b1 b2 b3 b4 hb k1
  obtain ⟨b0, b1, b2, b3, b4⟩ := id hX
  have k1 := hX.lt
  by_cases nn : qn < 0
  · go_wp2
    go_ret
    exact ⟨-1, rfl, by omega, by omega, hB⟩
  go_wp2_with fail
  refine (szChannel_any As cs s Ar cr r Ah ch h qn _ hls hms (hSs.below hB).all hlr hmr (hSr.below hB).all hlh hmh (hSh.below hB).all (by omega) (by omega)).mono ?_
  rintro e w3 ⟨qc, rfl, hqc, hrc, hb⟩
  replace hX := hX.below hb
  replace hB := Below.on' hB hb
  clear b0 b1 b2 b3 b4 hb k1
  obtain ⟨b0, b1, b2, b3, b4⟩ := id hX
  have k1 := hX.lt
  by_cases nc : qc < 0
  · go_wp2
    go_ret
    exact ⟨-1, rfl, by omega, by omega, hB⟩
  go_wp2
  go_ret
  exact ⟨qc, rfl, by omega, fun _ => ⟨hrf (by omega), hrn (by omega), hrc (by omega)⟩, hB⟩
set_option maxHeartbeats 8000000 in
theorem toEnds_any (Af : Option Addr) (cf : Nat) (f : List App) (An : Option Addr) (cn : Nat) (n : List App) (As : Option Addr) (cs : Nat) (s : List Msg) (Ar : Option Addr) (cr : Nat) (r : List Msg) (Ah : Option Addr) (ch : Nat) (h : List Msg) (w : World) (hlf : f.length ≤ 1048576) (hSf : Apps w 0 w.heap.size Af f) (hln : n.length ≤ 1048576) (hSn : Apps w 0 w.heap.size An n) (hls : s.length ≤ 1048576) (hSs : Msgs w 0 w.heap.size As s) (hlr : r.length ≤ 1048576) (hSr : Msgs w 0 w.heap.size Ar r) (hlh : h.length ≤ 1048576) (hSh : Msgs w 0 w.heap.size Ah h) :
    Calls Tryd.prog 10 #[.agg #[.slice Af f.length cf, .slice An n.length cn, .slice As s.length cs, .slice Ar r.length cr, .slice Ah h.length ch]] w fun e w' => ∃ g1 g2 g3 g4 g5 m1 m2 m3 m4, e = .returned (.agg #[.slice (some ⟨g1, 0, none⟩) f.length f.length, .slice (some ⟨g2, 0, none⟩) n.length n.length, .slice (some ⟨g3, 0, none⟩) s.length s.length, .slice (some ⟨g4, 0, none⟩) r.length r.length, .slice (some ⟨g5, 0, none⟩) h.length h.length]) ∧ (w.heap.size ≤ m1 ∧ m1 ≤ m2 ∧ m2 ≤ m3 ∧ m3 ≤ m4 ∧ m4 ≤ w'.heap.size) ∧ Apps w' w.heap.size m1 (some ⟨g1, 0, none⟩) f ∧ Apps w' m1 m2 (some ⟨g2, 0, none⟩) n ∧ Msgs w' m2 m3 (some ⟨g3, 0, none⟩) s ∧ Msgs w' m3 m4 (some ⟨g4, 0, none⟩) r ∧ Msgs w' m4 w'.heap.size (some ⟨g5, 0, none⟩) h ∧ Below w.heap.size w w' := by
  have X1 := ((BN.new w #[.slice Af f.length cf, .slice An n.length cn, .slice As s.length cs, .slice Ar r.length cr, .slice Ah h.length ch] 33 _ rfl).upto (B := w.heap.size + 1) (Nat.lt_succ_self _) ((Below.refl _ _).alloc (by simp) (.cells #[.slice none 0 0, .slice none 0 0, .slice none 0 0, .slice none 0 0, .slice none 0 0] 41))).upto (B := w.heap.size + 1) (Nat.lt_succ_self _) ((Below.refl _ _).alloc (by simp) (.cells #[.slice none 0 0, .slice none 0 0, .slice none 0 0, .slice none 0 0, .slice none 0 0] 41))
  have X2 := (BN.new (w.alloc (.cells #[.slice Af f.length cf, .slice An n.length cn, .slice As s.length cs, .slice Ar r.length cr, .slice Ah h.length ch] 33)) #[.slice none 0 0, .slice none 0 0, .slice none 0 0, .slice none 0 0, .slice none 0 0] 41 (w.heap.size + 1) (by simp)).upto (B := w.heap.size + 2) (Nat.lt_succ_self _) ((Below.refl _ _).alloc (by simp) (.cells #[.slice none 0 0, .slice none 0 0, .slice none 0 0, .slice none 0 0, .slice none 0 0] 41))
  have X3 := BN.new ((w.alloc (.cells #[.slice Af f.length cf, .slice An n.length cn, .slice As s.length cs, .slice Ar r.length cr, .slice Ah h.length ch] 33)).alloc (.cells #[.slice none 0 0, .slice none 0 0, .slice none 0 0, .slice none 0 0, .slice none 0 0] 41)) #[.slice none 0 0, .slice none 0 0, .slice none 0 0, .slice none 0 0, .slice none 0 0] 41 (w.heap.size + 2) (by simp)
  have hB : Below w.heap.size w (((w.alloc (.cells #[.slice Af f.length cf, .slice An n.length cn, .slice As s.length cs, .slice Ar r.length cr, .slice Ah h.length ch] 33)).alloc (.cells #[.slice none 0 0, .slice none 0 0, .slice none 0 0, .slice none 0 0, .slice none 0 0] 41)).alloc (.cells #[.slice none 0 0, .slice none 0 0, .slice none 0 0, .slice none 0 0, .slice none 0 0] 41)) := by go_grown
  have b0 := (X1 0 _ rfl).1
  go_enter Tryd.func10, Tryd.ntmps10
  go_wp2_with fail
  refine (toApplianceS_any Af cf f _ hlf (hSf.below hB).all).mono ?_
  rintro e w1 ⟨g1, rfl, hU, hb⟩
  replace X1 := X1.upto (X1.lt (by simp)) hb
  replace X2 := X2.upto (X2.lt (by simp)) hb
  replace X3 := X3.upto (X3.lt (by simp)) hb
  have zz1 : w.heap.size + 3 ≤ w1.heap.size := by have q := hb.size; simp at q; omega
  have T1 := hU.mono (lo' := w.heap.size + 3) (hi' := w1.heap.size) (by simp) (Nat.le_refl _) (Nat.le_refl _)
  replace hB := Below.on' hB hb
  clear hb hU
  have z1 := X3.lt (by simp)
  have hF : Fr (w.heap.size + 2) (w.heap.size + 2 + 1) w1 (w1.setCell ⟨w.heap.size + 2, 0, none⟩ (.slice (some ⟨g1, 0, none⟩) f.length f.length)) := (Fr.refl _ _ _).setCell ⟨by simp, by simp⟩ _
  replace T1 := T1.fr hF (by omega)
  have hBs : Below w.heap.size w (w1.setCell ⟨w.heap.size + 2, 0, none⟩ (.slice (some ⟨g1, 0, none⟩) f.length f.length)) := hB.trans (hF.below (by omega) (by omega))
  have Y1 := X1.off (p := ⟨w.heap.size + 2, 0, none⟩) (by simp) (.slice (some ⟨g1, 0, none⟩) f.length f.length)
  have Y2 := X2.off (p := ⟨w.heap.size + 2, 0, none⟩) (by simp) (.slice (some ⟨g1, 0, none⟩) f.length f.length)
  have Y3 := X3.put (i := 0) rfl (.slice (some ⟨g1, 0, none⟩) f.length f.length)
  have y1 := (Y1 1 _ rfl).1
  obtain ⟨x3c0, x3f0⟩ := X3 0 _ rfl
  obtain ⟨x3c1, x3f1⟩ := X3 1 _ rfl
  obtain ⟨x3c2, x3f2⟩ := X3 2 _ rfl
  obtain ⟨x3c3, x3f3⟩ := X3 3 _ rfl
  obtain ⟨x3c4, x3f4⟩ := X3 4 _ rfl
  clear hF
  go_wp2_with fail
  clear b0 y1 X1 X2 X3 hB x3c0 x3f0 x3c1 x3f1 x3c2 x3f2 x3c3 x3f3 x3c4 x3f4
  have X1 := Y1
  have X2 := Y2
  have X3 := Y3
  have hB := hBs
  clear Y1 Y2 Y3 hBs
  refine (toApplianceS_any An cn n _ hln (hSn.below hB).all).mono ?_
  rintro e w2 ⟨g2, rfl, hU, hb⟩
  replace X1 := X1.upto (X1.lt (by simp)) hb
  replace X2 := X2.upto (X2.lt (by simp)) hb
  replace X3 := X3.upto (X3.lt (by simp)) hb
  have zz2 : w1.heap.size ≤ w2.heap.size := by have q := hb.size; simp [World.setCell] at q; omega
  have T2 := hU.mono (lo' := w1.heap.size) (hi' := w2.heap.size) (by simp [World.setCell]) (Nat.le_refl _) (Nat.le_refl _)
  replace T1 := T1.below hb
  replace hB := Below.on' hB hb
  clear hb hU
  have z2 := X3.lt (by simp)
  have hF : Fr (w.heap.size + 2) (w.heap.size + 2 + 1) w2 (w2.setCell ⟨w.heap.size + 2, 1, none⟩ (.slice (some ⟨g2, 0, none⟩) n.length n.length)) := (Fr.refl _ _ _).setCell ⟨by simp, by simp⟩ _
  replace T1 := T1.fr hF (by omega)
  replace T2 := T2.fr hF (by omega)
  have hBs : Below w.heap.size w (w2.setCell ⟨w.heap.size + 2, 1, none⟩ (.slice (some ⟨g2, 0, none⟩) n.length n.length)) := hB.trans (hF.below (by omega) (by omega))
  have Y1 := X1.off (p := ⟨w.heap.size + 2, 1, none⟩) (by simp) (.slice (some ⟨g2, 0, none⟩) n.length n.length)
  have Y2 := X2.off (p := ⟨w.heap.size + 2, 1, none⟩) (by simp) (.slice (some ⟨g2, 0, none⟩) n.length n.length)
  have Y3 := X3.put (i := 1) rfl (.slice (some ⟨g2, 0, none⟩) n.length n.length)
  have y1 := (Y1 2 _ rfl).1
  have y2 := (Y1 3 _ rfl).1
  have y3 := (Y1 4 _ rfl).1
  obtain ⟨x3c0, x3f0⟩ := X3 0 _ rfl
  obtain ⟨x3c1, x3f1⟩ := X3 1 _ rfl
  obtain ⟨x3c2, x3f2⟩ := X3 2 _ rfl
  obtain ⟨x3c3, x3f3⟩ := X3 3 _ rfl
  obtain ⟨x3c4, x3f4⟩ := X3 4 _ rfl
  clear hF
  go_wp2_with fail
  clear y1 y2 y3 X1 X2 X3 hB x3c0 x3f0 x3c1 x3f1 x3c2 x3f2 x3c3 x3f3 x3c4 x3f4
  have X1 := Y1
  have X2 := Y2
  have X3 := Y3
  have hB := hBs
  clear Y1 Y2 Y3 hBs
  refine (toChannel_any As cs s Ar cr r Ah ch h _ hls (hSs.below hB).all hlr (hSr.below hB).all hlh (hSh.below hB).all).mono ?_
  rintro e w3 ⟨g3, g4, g5, m1, m2, rfl, hz1, hz2, hz3, hU3, hU4, hU5, hb⟩
  replace X1 := X1.upto (X1.lt (by simp)) hb
  replace X2 := X2.upto (X2.lt (by simp)) hb
  replace X3 := X3.upto (X3.lt (by simp)) hb
  have zz3 : w2.heap.size ≤ w3.heap.size := by have q := hb.size; simpa [World.setCell] using q
  have hz0 : w2.heap.size ≤ m1 := by have q := hz1; simpa [World.setCell] using q
  have T3 := hU3.mono (lo' := w2.heap.size) (hi' := m1) (by simp [World.setCell]) (Nat.le_refl _) (by omega)
  have T4 := hU4
  have T5 := hU5
  replace T1 := T1.below hb
  replace T2 := T2.below hb
  replace hB := Below.on' hB hb
  clear hb hU3 hU4 hU5 hz1
  have hF : Fr (w.heap.size + 1) (w.heap.size + 2 + 1) w3 ((((((((w3.setCell ⟨w.heap.size + 2, 2, none⟩ (.slice (some ⟨g3, 0, none⟩) s.length s.length)).setCell ⟨w.heap.size + 2, 3, none⟩ (.slice (some ⟨g4, 0, none⟩) r.length r.length)).setCell ⟨w.heap.size + 2, 4, none⟩ (.slice (some ⟨g5, 0, none⟩) h.length h.length)).setCell ⟨w.heap.size + 1, 0, none⟩ (.slice (some ⟨g1, 0, none⟩) f.length f.length)).setCell ⟨w.heap.size + 1, 1, none⟩ (.slice (some ⟨g2, 0, none⟩) n.length n.length)).setCell ⟨w.heap.size + 1, 2, none⟩ (.slice (some ⟨g3, 0, none⟩) s.length s.length)).setCell ⟨w.heap.size + 1, 3, none⟩ (.slice (some ⟨g4, 0, none⟩) r.length r.length)).setCell ⟨w.heap.size + 1, 4, none⟩ (.slice (some ⟨g5, 0, none⟩) h.length h.length)) := (((((((((Fr.refl _ _ _).setCell ⟨by simp, by simp⟩ _).setCell ⟨by simp, by simp⟩ _).setCell ⟨by simp, by simp⟩ _).setCell ⟨by simp, by simp⟩ _).setCell ⟨by simp, by simp⟩ _).setCell ⟨by simp, by simp⟩ _).setCell ⟨by simp, by simp⟩ _).setCell ⟨by simp, by simp⟩ _)
  replace T1 := T1.fr hF (by omega)
  replace T2 := T2.fr hF (by omega)
  replace T3 := T3.fr hF (by omega)
  replace T4 := T4.fr hF (by omega)
  replace T5 := T5.fr hF (by omega)
  have hB4 := hB.trans (hF.below (by omega) (by have := hB.size; omega))
  have Y30 := X3.put (i := 2) rfl (.slice (some ⟨g3, 0, none⟩) s.length s.length)
  have Y20 := X2.off (p := ⟨w.heap.size + 2, 2, none⟩) (by simp) (.slice (some ⟨g3, 0, none⟩) s.length s.length)
  have Y31 := Y30.put (i := 3) rfl (.slice (some ⟨g4, 0, none⟩) r.length r.length)
  have Y21 := Y20.off (p := ⟨w.heap.size + 2, 3, none⟩) (by simp) (.slice (some ⟨g4, 0, none⟩) r.length r.length)
  have Y32 := Y31.put (i := 4) rfl (.slice (some ⟨g5, 0, none⟩) h.length h.length)
  have Y22 := Y21.off (p := ⟨w.heap.size + 2, 4, none⟩) (by simp) (.slice (some ⟨g5, 0, none⟩) h.length h.length)
  have Z0 := Y22.put (i := 0) rfl (.slice (some ⟨g1, 0, none⟩) f.length f.length)
  have Z1 := Z0.put (i := 1) rfl (.slice (some ⟨g2, 0, none⟩) n.length n.length)
  have Z2 := Z1.put (i := 2) rfl (.slice (some ⟨g3, 0, none⟩) s.length s.length)
  have Z3 := Z2.put (i := 3) rfl (.slice (some ⟨g4, 0, none⟩) r.length r.length)
  have Z4 := Z3.put (i := 4) rfl (.slice (some ⟨g5, 0, none⟩) h.length h.length)
  obtain ⟨x3c0, x3f0⟩ := X3 0 _ rfl
  obtain ⟨x3c1, x3f1⟩ := X3 1 _ rfl
  obtain ⟨x3c2, x3f2⟩ := X3 2 _ rfl
  obtain ⟨x3c3, x3f3⟩ := X3 3 _ rfl
  obtain ⟨x3c4, x3f4⟩ := X3 4 _ rfl
  obtain ⟨y32c0, y32f0⟩ := Y32 0 _ rfl
  obtain ⟨y32c1, y32f1⟩ := Y32 1 _ rfl
  obtain ⟨y32c2, y32f2⟩ := Y32 2 _ rfl
  obtain ⟨y32c3, y32f3⟩ := Y32 3 _ rfl
  obtain ⟨y32c4, y32f4⟩ := Y32 4 _ rfl
  obtain ⟨y22c0, y22f0⟩ := Y22 0 _ rfl
  obtain ⟨y22c1, y22f1⟩ := Y22 1 _ rfl
  obtain ⟨y22c2, y22f2⟩ := Y22 2 _ rfl
  obtain ⟨y22c3, y22f3⟩ := Y22 3 _ rfl
  obtain ⟨y22c4, y22f4⟩ := Y22 4 _ rfl
  obtain ⟨z4c0, z4f0⟩ := Z4 0 _ rfl
  obtain ⟨z4c1, z4f1⟩ := Z4 1 _ rfl
  obtain ⟨z4c2, z4f2⟩ := Z4 2 _ rfl
  obtain ⟨z4c3, z4f3⟩ := Z4 3 _ rfl
  obtain ⟨z4c4, z4f4⟩ := Z4 4 _ rfl
  have hfs := hF.size
  clear X1 X2 X3 Y30 Y31 Y32 Y20 Y21 Y22 Z0 Z1 Z2 Z3 Z4 hF
  go_wp2
  refine bodyPost_ret (by simp [results, Tryd.results10, go_sem, z4c0, z4c1, z4c2, z4c3, z4c4]; try rfl) rfl ?_
  exact ⟨g1, g2, g3, g4, g5, w1.heap.size, w2.heap.size, m1, m2, rfl, ⟨by omega, by omega, by omega, by omega, Nat.le_trans hz3 hfs⟩, T1.mono (by omega) (Nat.le_refl _) (Nat.le_trans (by omega) hfs), T2, T3, T4, T5.mono (Nat.le_refl _) hfs (Nat.le_refl _), hB4⟩
end Go.Proofs.YtianabfehonliaaDoor

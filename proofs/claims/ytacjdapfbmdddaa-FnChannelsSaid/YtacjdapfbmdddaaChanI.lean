/- Valid channels, as the program tests them. Conditions: at most 2^20 messages in each list, texts of at most 2^20. -/
import Derived.Test.YtacjdapfbmdddaaChanD
import Derived.Maps.Own
import Derived.Maps.Views
namespace Go.Proofs.Ytacjdapfbmdddaa
open Go.RowKit Go.WideMaps Go.Maps

/-- The map counts the names of l. -/
def CntD (D : DataW Unit) (l : List Msg) : Prop := IsMap D ∧ ∀ f : ByteArray, D.atKey (.string f.data.toList) (.lit (.int .i64 0)) = .lit (.int .i64 (cntM l f))
theorem CntD.step {D : DataW Unit} {l l' : List Msg} {xf : ByteArray} {v : Nat} (hD : CntD D l) (hv : cntM l xf = v) (hs : ∀ f : ByteArray, (cntM l' f : Int) = cntM l f + if xf.toList = f.toList then 1 else 0) : CntD (D.put (.string xf.data.toList) (.lit (.int .i64 ((v : Int) + 1)))) l' := by
  refine ⟨hD.1.put _ _, fun f => ?_⟩
  by_cases h : xf.toList = f.toList
  · obtain rfl := toList_inj h
    rw [atKey_put_same hD.1 (show WideAt.IsKeyLit (.string _) from trivial), hs, if_pos rfl, hv]
  · have hne : (Lit.string f.data.toList) ≠ .string xf.data.toList := by
      intro e
      injection e with e
      rw [Go.ByteArray.toList_eq, Go.ByteArray.toList_eq] at h
      exact h e.symm
    rw [atKey_put_other hne, hD.2 f, hs, if_neg h, Int.add_zero]
theorem B3.grown {b : Nat} {x y z : Value} {X X' : World} {row : Option Nat} (a : B3 b x y z X) (hg : X.grownBy X' row) (hne : some b ≠ row) : B3 b x y z X' := a.same (hg.block b a.lt hne)
theorem keyLaw : Keyed Try.prog 9 := string_keyed Try.underlying9
theorem zeroInt (w : World) : (zeroValue 3).run Try.prog w = .ok (.int .i64 0) w := by kernel_rfl
set_option maxRecDepth 100000 in
set_option maxHeartbeats 8000000 in
theorem isChannel_any (pb po : Nat) (As : Option Addr) (cs : Nat) (s : List Msg) (Ar : Option Addr) (cr : Nat) (r : List Msg) (Ah : Option Addr) (ch : Nat) (h : List Msg) (w : World) (hX : C3 pb po (.slice As s.length cs) (.slice Ar r.length cr) (.slice Ah h.length ch) w) (hls : s.length ≤ 1048576) (hms : ∀ y ∈ s, y.f.size ≤ 1048576 ∧ y.b.size ≤ 1048576) (hSs : Msgs w 0 w.heap.size As s) (_hcs : s.length ≤ cs) (hlr : r.length ≤ 1048576) (_hmr : ∀ y ∈ r, y.f.size ≤ 1048576 ∧ y.b.size ≤ 1048576) (hSr : Msgs w 0 w.heap.size Ar r) (hcr : r.length ≤ cr) (hlh : h.length ≤ 1048576) (_hmh : ∀ y ∈ h, y.f.size ≤ 1048576 ∧ y.b.size ≤ 1048576) (hSh : Msgs w 0 w.heap.size Ah h) (hch : h.length ≤ ch) :
    Calls Try.prog 24 #[.pointer (some ⟨pb, po, none⟩)] w (RV w (.bool (chanB s r h))) := by
  have hmm := @run_makeMap Try.prog
  have hX0 := hX.alloc (.map #[] 0)
  have hB0 : Below w.heap.size w (w.alloc (.map #[] 0)) := by go_grown
  have hM0 := World.ownsMap_made w Try.prog 9 (plainElem (H := Unit) Try.prog 3)
  have hD0 : CntD (.map []) (s.take 0) := ⟨isMap_empty, fun f => rfl⟩
  obtain ⟨b0, b1, b2, _, _, _⟩ := id hX0
  have hpb := hX.lt
  go_enter Try.func24, Try.ntmps24
  go_wp2_with fail
  go_loopw [12] (fun i wr => ∃ (k : Nat) (D : DataW Unit), k ≤ s.length ∧ i = .int .i64 k ∧ Hid (∀ i, i < k → sentAt s i = true) ∧ wr.ownsMap Try.prog 9 (plainElem Try.prog 3) w.heap.size k D ∧ CntD D (s.take k) ∧ C3 pb po (.slice As s.length cs) (.slice Ar r.length cr) (.slice Ah h.length ch) wr ∧ Below w.heap.size w wr) (fun i _ => s.length - (intOf i).toNat)
  case atStart => exact ⟨0, _, Nat.zero_le _, rfl, Lib.hid (fun i hi => absurd hi (Nat.not_lt_zero i)), hM0, hD0, hX0, hB0⟩
  case round =>
    obtain ⟨k, D, hk, rfl, HX, hM, hD, hX, hB⟩ := hrel
    clear hX0 b0 b1 b2 hM0 hD0 hB0
    have hz := hB.size
    by_cases hlt : k < s.length
    · obtain ⟨⟨xf, xn, xb⟩, hx, hxM⟩ := get_lt hlt
      have HE := Lib.hid (sentAt_eq hx)
      obtain ⟨hxf, hxb⟩ := hms _ hxM
      have hSr := (hSs.below hB)
      obtain ⟨b, off, rfl, _, _, _, hf⟩ := hSr.at_ hx
      have c0 : wr.cell? ⟨b, off + k * 3, none⟩ = some (.string xf) := (hf 0 _ rfl).1
      have c1 : wr.cell? ⟨b, off + k * 3 + 1, none⟩ = some (.int .i64 xn) := (hf 1 _ rfl).1
      have c2 : wr.cell? ⟨b, off + k * 3 + 2, none⟩ = some (.string xb) := (hf 2 _ rfl).1
      clear hf hxM hSr
      have hkey : keyOf Try.prog 9 (.string xf) = some (.string xf.data.toList) := keyOf_string_mk Try.underlying9 (by unfold maxLen; exact Nat.le_trans hxf (by omega))
      have hMl := hM.lt
      have hMV := hM.alloc (.cells #[.string xf, .int .i64 xn, .string xb] 33)
      obtain ⟨c, hrun, hat, _⟩ := hMV.lookup_int keyLaw Try.underlying69 Try.underlying3 (zeroInt _) hkey
      obtain rfl : c = cntM (s.take k) xf := by have := hat.symm.trans (hD.2 xf); simpa using this
      have hcv : cntM (s.take k) xf ≤ 1048576 := by have := cntM_le (s.take k) xf; rw [List.length_take] at this; omega
      have hS1 := Lib.hid (fun f => cntM_step hx f)
      clear hx
      generalize hv : cntM (s.take k) xf = v at HE hat hrun hcv
      have hw : IntKind.i64.wrap ((v : Int) + 1) = (v : Int) + 1 := IntWalk.i64_in _ (by omega)
      have hwf : (Lit.int .i64 ((v : Int) + 1)).wf = true := by simp only [Lit.wf, IntKind.min, IntKind.max, IntKind.signed, IntKind.bits, Bool.and_eq_true, decide_eq_true_eq, if_true]; omega
      have hkm : k < maxLen := by unfold maxLen; omega
      go_wp2_with (first
        | (at_mapUpdate; refine wpList_mapUpdate_own _ rfl _ _ _ 69 rfl 9 3 keyLaw Try.underlying69 _ w.heap.size k _ rfl hMV hkm _ _ _ rfl rfl hkey _ [] (plainElem_int Try.underlying3 hwf) ?_)
        | fail)
      intro w1 hown1 hgrow1
      have WD := hD
      have hD1 := hD.step hv hS1.out
      have hY := (B3.new wr (.string xf) (.int .i64 xn) (.string xb) 33 _ rfl).grown hgrow1 (by simp; omega)
      have hX1 := (hX.alloc (.cells #[.string xf, .int .i64 xn, .string xb] 33)).grown hgrow1 (by simp; omega)
      have hB1 : Below w.heap.size w w1 := (hB.alloc hz (.cells #[.string xf, .int .i64 xn, .string xb] 33)).grown hgrow1 (by simp; omega) (fun j hj => by cases hj; exact Nat.le_refl _)
      clear hM hMV hrun hat hD hX hB hgrow1 c0 c1 c2 hkm hwf hS1 hcv
      obtain ⟨d0, d1, d2, _, _, _⟩ := id hY
      go_wp2_with fail
      refine (isMessage_any ⟨xf, xn, xb⟩ _ hxf hxb).mono ?_
      rintro e w2 ⟨rfl, hb⟩
      replace hY := hY.below hb
      have hX2 := hX1.below hb
      have hB2 := Below.on' hB1 hb
      have hown2 := hown1.kept (row := none) ⟨hb.os, hb.tape, hb.output, hb.size, fun b h _ => hb.block b h⟩ (by simp)
      obtain ⟨c, hrun, hat, _⟩ := hown2.lookup_int keyLaw Try.underlying69 Try.underlying3 (zeroInt _) hkey
      obtain rfl : c = (v : Int) + 1 := by have := hat.symm.trans (atKey_put_same WD.1 (show WideAt.IsKeyLit (.string _) from trivial) _ _); simpa using this
      clear d0 d1 d2 hown1 hX1 hB1 hb hat
      obtain ⟨d0, d1, d2, _, _, _⟩ := id hY
      by_cases g1 : msgB ⟨xf, xn, xb⟩ = true
      rotate_left
      · have g1 : msgB ⟨xf, xn, xb⟩ = false := by simpa using g1
        have HF : Hid (chanB s r h = false) := Lib.hid (by rw [chanB, sentB, upto_no hlt (by rw [HE.out, g1]; rfl)]; rfl)
        rw [g1]
        clear HE HX g1 hown2
        go_wp2
        go_ret
        exact RV.mk (by rw [HF.out]; rfl) hB2
      by_cases g2 : xn = (v : Int) + 1
      · have HX' := Lib.hid (upto_step HX.out (by rw [HE.out, g1, g2]; simp))
        rw [g1]
        clear HE HX g1
        subst g2
        go_wp2
        go_roundw
        case rel => exact ⟨k + 1, _, by omega, by go_num, HX', hown2, hD1, hX2, hB2⟩
        case measure => simp [intOf]; omega
      · have HF : Hid (chanB s r h = false) := Lib.hid (by rw [chanB, sentB, upto_no hlt (by rw [HE.out, g1]; simpa using g2)]; rfl)
        rw [g1]
        clear HE HX g1 hown2 hD1 hX2 hw
        generalize (v : Int) + 1 = q at *
        go_wp2
        go_ret
        exact RV.mk (by rw [HF.out]; rfl) hB2
    · obtain rfl : k = s.length := by omega
      have HS : Hid (sentB s = true) := Lib.hid (upto_all HX.out)
      clear HX
      obtain ⟨x0, x1, x2, _, _, _⟩ := id hX
      have hcls : ∀ W, Below wr.heap.size wr W → W.cell? ⟨pb, po, none⟩ = some (.slice As s.length cs) ∧ W.cell? ⟨pb, po + 1, none⟩ = some (.slice Ar r.length cr) ∧ W.cell? ⟨pb, po + 2, none⟩ = some (.slice Ah h.length ch) := fun W hb => ⟨keep hb x0, keep hb x1, keep hb x2⟩
      have HM : ∀ W, Below wr.heap.size wr W → Calls Try.prog 48 #[.slice Ar r.length cr, .slice As s.length cs] W (RV W (.bool (someB r s))) := fun W hb => areSome_any Ar cr r As cs s W hlr hcr (hSr.below (Below.on' hB hb)).all hls (hSs.below (Below.on' hB hb)).all
      have HN : ∀ W, Below wr.heap.size wr W → Calls Try.prog 48 #[.slice Ah h.length ch, .slice Ar r.length cr] W (RV W (.bool (someB h r))) := fun W hb => areSome_any Ah ch h Ar cr r W hlh hch (hSh.below (Below.on' hB hb)).all hlr (hSr.below (Below.on' hB hb)).all
      clear hX x0 x1 x2 hM hD
      by_cases g3 : (s.length : Int) ≤ 30
      rotate_left
      · have HF : Hid (chanB s r h = false) := Lib.hid (by
          have : decide (s.length ≤ 30) = false := by simp; omega
          rw [chanB, this]; simp)
        have hd : decide ((s.length : Int) ≤ 30) = false := by simpa using g3
        go_wp2_with fail
        refine wp_region_quiet (C := fun w' => Below wr.heap.size wr w') (by kernel_rfl) (by kernel_rfl) ((Below.refl _ _).drew) ?_
        dsimp only [Array.toList]
        iterate 29
          with_reducible refine wpQuiet_step (fun K hK => ?_)
          go_simp
          first
            | (refine hK _ ?_; clear hK K)
            | (apply Exists.intro
               refine ⟨fun w' hw' => ?_, hK _ ?_⟩
               · obtain ⟨z0, z1, z2⟩ := hcls w' hw'
                 have M1 := HM w' hw'
                 have M2 := HN w' hw'
                 go_simp
                 first
                   | rfl
                   | ((with_reducible (refine M1.mono ?_)); rintro e w1 ⟨rfl, hb⟩; exact ⟨rfl, hw'.trans (hb.mono hw'.size)⟩)
                   | ((with_reducible (refine M2.mono ?_)); rintro e w1 ⟨rfl, hb⟩; exact ⟨rfl, hw'.trans (hb.mono hw'.size)⟩)
               clear hK K)
        refine wpQuiet_nil ?_
        intro W2 hW2
        have hB2 : Below w.heap.size w W2 := Below.on' hB hW2
        clear hcls HM HN hW2
        go_wp2
        go_ret
        exact RV.mk (by rw [HF.out]; rfl) hB2
      have H3 : Hid (chanB s r h = (someB r s && someB h r)) := Lib.hid (by
        have : decide (s.length ≤ 30) = true := by simp; omega
        rw [chanB, this, HS.out]; simp)
      by_cases g4 : someB r s = true
      rotate_left
      · have g4 : someB r s = false := by simpa using g4
        have HF : Hid (chanB s r h = false) := Lib.hid (by rw [H3.out, g4]; rfl)
        rw [g4] at HM
        go_wp2_with fail
        refine wp_region_quiet (C := fun w' => Below wr.heap.size wr w') (by kernel_rfl) (by kernel_rfl) ((Below.refl _ _).drew) ?_
        dsimp only [Array.toList]
        iterate 29
          with_reducible refine wpQuiet_step (fun K hK => ?_)
          go_simp
          first
            | (refine hK _ ?_; clear hK K)
            | (apply Exists.intro
               refine ⟨fun w' hw' => ?_, hK _ ?_⟩
               · obtain ⟨z0, z1, z2⟩ := hcls w' hw'
                 have M1 := HM w' hw'
                 have M2 := HN w' hw'
                 go_simp
                 first
                   | rfl
                   | ((with_reducible (refine M1.mono ?_)); rintro e w1 ⟨rfl, hb⟩; exact ⟨rfl, hw'.trans (hb.mono hw'.size)⟩)
                   | ((with_reducible (refine M2.mono ?_)); rintro e w1 ⟨rfl, hb⟩; exact ⟨rfl, hw'.trans (hb.mono hw'.size)⟩)
               clear hK K)
        refine wpQuiet_nil ?_
        intro W2 hW2
        have hB2 : Below w.heap.size w W2 := Below.on' hB hW2
        clear hcls HM HN hW2
        go_wp2
        go_ret
        exact RV.mk (by rw [HF.out]; rfl) hB2
      have HF : Hid (chanB s r h = someB h r) := Lib.hid (by rw [H3.out, g4]; rfl)
      rw [g4] at HM
      cases g5 : someB h r with
      | false =>
        rw [g5] at HN HF
        go_wp2_with fail
        refine wp_region_quiet (C := fun w' => Below wr.heap.size wr w') (by kernel_rfl) (by kernel_rfl) ((Below.refl _ _).drew) ?_
        dsimp only [Array.toList]
        iterate 29
          with_reducible refine wpQuiet_step (fun K hK => ?_)
          go_simp
          first
            | (refine hK _ ?_; clear hK K)
            | (apply Exists.intro
               refine ⟨fun w' hw' => ?_, hK _ ?_⟩
               · obtain ⟨z0, z1, z2⟩ := hcls w' hw'
                 have M1 := HM w' hw'
                 have M2 := HN w' hw'
                 go_simp
                 first
                   | rfl
                   | ((with_reducible (refine M1.mono ?_)); rintro e w1 ⟨rfl, hb⟩; exact ⟨rfl, hw'.trans (hb.mono hw'.size)⟩)
                   | ((with_reducible (refine M2.mono ?_)); rintro e w1 ⟨rfl, hb⟩; exact ⟨rfl, hw'.trans (hb.mono hw'.size)⟩)
               clear hK K)
        refine wpQuiet_nil ?_
        intro W2 hW2
        have hB2 : Below w.heap.size w W2 := Below.on' hB hW2
        clear hcls HM HN hW2
        go_wp2
        go_ret
        exact RV.mk (by rw [HF.out]; rfl) hB2
      | true =>
        rw [g5] at HN HF
        go_wp2_with fail
        refine wp_region_quiet (C := fun w' => Below wr.heap.size wr w') (by kernel_rfl) (by kernel_rfl) ((Below.refl _ _).drew) ?_
        dsimp only [Array.toList]
        iterate 29
          with_reducible refine wpQuiet_step (fun K hK => ?_)
          go_simp
          first
            | (refine hK _ ?_; clear hK K)
            | (apply Exists.intro
               refine ⟨fun w' hw' => ?_, hK _ ?_⟩
               · obtain ⟨z0, z1, z2⟩ := hcls w' hw'
                 have M1 := HM w' hw'
                 have M2 := HN w' hw'
                 go_simp
                 first
                   | rfl
                   | ((with_reducible (refine M1.mono ?_)); rintro e w1 ⟨rfl, hb⟩; exact ⟨rfl, hw'.trans (hb.mono hw'.size)⟩)
                   | ((with_reducible (refine M2.mono ?_)); rintro e w1 ⟨rfl, hb⟩; exact ⟨rfl, hw'.trans (hb.mono hw'.size)⟩)
               clear hK K)
        refine wpQuiet_nil ?_
        intro W2 hW2
        have hB2 : Below w.heap.size w W2 := Below.on' hB hW2
        clear hcls HM HN hW2
        go_wp2
        go_ret
        exact RV.mk (by rw [HF.out]; rfl) hB2
end Go.Proofs.Ytacjdapfbmdddaa

/- Valid channels, as the reference tests them. Conditions: at most 2^20 messages in each list, texts of at most 2^20. -/
import Derived.Test.YtacjdapfbmdddaaChanQ
namespace Go.Proofs.Ytacjdapfbmdddaa
open Go.RowKit

theorem sentAt_eq {l : List Msg} {k : Nat} {xf xb : ByteArray} {xn : Int} (hx : l[k]? = some ⟨xf, xn, xb⟩) : sentAt l k = (msgB ⟨xf, xn, xb⟩ && decide (xn = (cntM (l.take k) xf : Int) + 1)) := by simp [sentAt, hx]
set_option maxRecDepth 100000 in
set_option maxHeartbeats 8000000 in
theorem raGood_any (As : Option Addr) (cs : Nat) (s : List Msg) (Ar : Option Addr) (cr : Nat) (r : List Msg) (Ah : Option Addr) (ch : Nat) (h : List Msg) (w : World) (hls : s.length ≤ 1048576) (hms : ∀ y ∈ s, y.f.size ≤ 1048576 ∧ y.b.size ≤ 1048576) (hSs : Msgs w 0 w.heap.size As s) (hcs : s.length ≤ cs) (hlr : r.length ≤ 1048576) (_hmr : ∀ y ∈ r, y.f.size ≤ 1048576 ∧ y.b.size ≤ 1048576) (hSr : Msgs w 0 w.heap.size Ar r) (hcr : r.length ≤ cr) (hlh : h.length ≤ 1048576) (_hmh : ∀ y ∈ h, y.f.size ≤ 1048576 ∧ y.b.size ≤ 1048576) (hSh : Msgs w 0 w.heap.size Ah h) (hch : h.length ≤ ch) :
    Calls Try.prog 28 #[.agg #[.slice As s.length cs, .slice Ar r.length cr, .slice Ah h.length ch]] w (RV w (.bool (chanB s r h))) := by
  rw [← chan_eq]
  have hX0 := B3.new w (.slice As s.length cs) (.slice Ar r.length cr) (.slice Ah h.length ch) 26 _ rfl
  obtain ⟨b0, b1, b2, _, _, _⟩ := id hX0
  go_enter Try.func28, Try.ntmps28
  go_wp2_with fail
  go_loopw [8] (fun i wr => ∃ k : Nat, k ≤ s.length ∧ i = .int .i64 k ∧ Hid (∀ i, i < k → sentAt s i = true) ∧ B3 w.heap.size (.slice As s.length cs) (.slice Ar r.length cr) (.slice Ah h.length ch) wr ∧ Below w.heap.size w wr) (fun i _ => s.length - (intOf i).toNat)
  case atStart => exact ⟨0, Nat.zero_le _, rfl, Lib.hid (fun i hi => absurd hi (Nat.not_lt_zero i)), hX0, by go_grown⟩
  case round =>
    obtain ⟨k, hk, rfl, HX, hX, hB⟩ := hrel
    clear hX0 b0 b1 b2
    have hz := hB.size
    have hlt0 := hX.lt
    by_cases hlt : k < s.length
    · obtain ⟨⟨xf, xn, xb⟩, hx, hxM⟩ := get_lt hlt
      have HE := Lib.hid (sentAt_eq hx)
      obtain ⟨hxf, hxb⟩ := hms _ hxM
      have hSr := (hSs.below hB)
      obtain ⟨b, off, rfl, _, _, _, hf⟩ := hSr.at_ hx
      have c0 : wr.cell? ⟨b, off + k * 3, none⟩ = some (.string xf) := (hf 0 _ rfl).1
      have c1 : wr.cell? ⟨b, off + k * 3 + 1, none⟩ = some (.int .i64 xn) := (hf 1 _ rfl).1
      have c2 : wr.cell? ⟨b, off + k * 3 + 2, none⟩ = some (.string xb) := (hf 2 _ rfl).1
      have hS1 : Msgs wr 0 w.heap.size (some ⟨b, off, none⟩) (s.take k) := hSr.pre k
      obtain ⟨x0, x1, x2, _, _, _⟩ := id hX
      have hXV := hX.alloc (.cells #[.string xf, .int .i64 xn, .string xb] 33)
      have hcls : ∀ W, Below (wr.alloc (.cells #[.string xf, .int .i64 xn, .string xb] 33)).heap.size (wr.alloc (.cells #[.string xf, .int .i64 xn, .string xb] 33)) W → W.cell? ⟨wr.heap.size, 0, none⟩ = some (.string xf) ∧ W.cell? ⟨wr.heap.size, 1, none⟩ = some (.int .i64 xn) ∧ W.cell? ⟨wr.heap.size, 2, none⟩ = some (.string xb) ∧ W.cell? ⟨w.heap.size, 0, none⟩ = some (.slice (some ⟨b, off, none⟩) s.length cs) := fun W hb =>
        have H := fun t u hu => keep hb (new_cells (E := Msg.cells) wr 33 ⟨xf, xn, xb⟩ _ rfl t u hu)
        ⟨H 0 _ rfl, H 1 _ rfl, H 2 _ rfl, (hXV.below hb).c0⟩
      have HM : ∀ W, Calls Try.prog 50 #[.agg #[.string xf, .int .i64 xn, .string xb]] W (RV W (.bool (msgB ⟨xf, xn, xb⟩))) := fun W => raOne_any ⟨xf, xn, xb⟩ W hxf hxb
      have HN : ∀ W, Below (wr.alloc (.cells #[.string xf, .int .i64 xn, .string xb] 33)).heap.size (wr.alloc (.cells #[.string xf, .int .i64 xn, .string xb] 33)) W → Calls Try.prog 32 #[.slice (some ⟨b, off, none⟩) k cs, .string xf] W (RV W (.int .i64 (cntM (s.take k) xf))) := fun W hb => by
        have := raCount_any (some ⟨b, off, none⟩) cs (s.take k) xf W (by rw [List.length_take]; omega) ((hS1.alloc _).below hb).all
        rw [List.length_take, Nat.min_eq_left (by omega)] at this
        exact this
      have hcv : cntM (s.take k) xf ≤ 1048576 := by have := cntM_le (s.take k) xf; rw [List.length_take] at this; omega
      generalize (cntM (s.take k) xf) = v at HE HN hcv
      have hw : IntKind.i64.wrap ((v : Int) + 1) = (v : Int) + 1 := IntWalk.i64_in _ (by omega)
      have hkc : k ≤ cs := by omega
      clear hf hx hxM hSr hS1 x0 x1 x2
      go_wp2_with fail
      generalize hV : wr.alloc (.cells #[.string xf, .int .i64 xn, .string xb] 33) = V at hcls HN hXV ⊢
      have hBV : Below w.heap.size w V := by rw [← hV]; go_grown
      clear c0 c1 c2
      by_cases g1 : msgB ⟨xf, xn, xb⟩ = true
      rotate_left
      · have g1 : msgB ⟨xf, xn, xb⟩ = false := by simpa using g1
        rw [g1] at HM
        have HF : Hid (chanW s r h = false) := Lib.hid (by rw [chanW, sentB, upto_no hlt (by rw [HE.out, g1]; rfl)]; rfl)
        clear HE HX g1
        go_wp2_with fail
        refine wp_region_quiet (C := fun w' => Below V.heap.size V w') (by kernel_rfl) (by kernel_rfl) ((Below.refl _ _).drew) ?_
        dsimp only [Array.toList]
        iterate 16
          with_reducible refine wpQuiet_step (fun K hK => ?_)
          go_simp
          first
            | (refine hK _ ?_; clear hK K)
            | (apply Exists.intro
               refine ⟨fun w' hw' => ?_, hK _ ?_⟩
               · obtain ⟨z0, z1, z2, z3⟩ := hcls w' hw'
                 have M1 := HM w'
                 have M2 := HN w' hw'
                 go_simp
                 first
                   | rfl
                   | (refine M1.mono ?_; rintro e w1 ⟨rfl, hb⟩; exact ⟨rfl, hw'.trans (hb.mono hw'.size)⟩)
                   | (refine M2.mono ?_; rintro e w1 ⟨rfl, hb⟩; exact ⟨rfl, hw'.trans (hb.mono hw'.size)⟩)
               clear hK K)
        refine wpQuiet_nil ?_
        intro W2 hW2
        have hB2 : Below w.heap.size w W2 := Below.on' hBV hW2
        have hX2 := hXV.below hW2
        clear hcls HM HN hW2 hXV
        go_wp2
        go_ret
        exact RV.mk (by rw [HF.out]; rfl) hB2
      by_cases g2 : xn = (v : Int) + 1
      · rw [g1] at HM
        have HX' := Lib.hid (upto_step HX.out (by rw [HE.out, g1, g2]; simp))
        clear HE HX g1
        subst g2
        go_wp2_with fail
        refine wp_region_quiet (C := fun w' => Below V.heap.size V w') (by kernel_rfl) (by kernel_rfl) ((Below.refl _ _).drew) ?_
        dsimp only [Array.toList]
        iterate 16
          with_reducible refine wpQuiet_step (fun K hK => ?_)
          go_simp
          first
            | (refine hK _ ?_; clear hK K)
            | (apply Exists.intro
               refine ⟨fun w' hw' => ?_, hK _ ?_⟩
               · obtain ⟨z0, z1, z2, z3⟩ := hcls w' hw'
                 have M1 := HM w'
                 have M2 := HN w' hw'
                 go_simp
                 first
                   | rfl
                   | (refine M1.mono ?_; rintro e w1 ⟨rfl, hb⟩; exact ⟨rfl, hw'.trans (hb.mono hw'.size)⟩)
                   | (refine M2.mono ?_; rintro e w1 ⟨rfl, hb⟩; exact ⟨rfl, hw'.trans (hb.mono hw'.size)⟩)
               clear hK K)
        refine wpQuiet_nil ?_
        intro W2 hW2
        have hB2 : Below w.heap.size w W2 := Below.on' hBV hW2
        have hX2 := hXV.below hW2
        clear hcls HM HN hW2 hXV
        go_wp2
        go_roundw
        case rel => exact ⟨k + 1, by omega, by go_num, HX', hX2, hB2⟩
        case measure => simp [intOf]; omega
      · rw [g1] at HM
        have HF : Hid (chanW s r h = false) := Lib.hid (by rw [chanW, sentB, upto_no hlt (by rw [HE.out, g1]; simpa using g2)]; rfl)
        clear HE HX g1
        go_wp2_with fail
        refine wp_region_quiet (C := fun w' => Below V.heap.size V w') (by kernel_rfl) (by kernel_rfl) ((Below.refl _ _).drew) ?_
        dsimp only [Array.toList]
        iterate 16
          with_reducible refine wpQuiet_step (fun K hK => ?_)
          go_simp
          first
            | (refine hK _ ?_; clear hK K)
            | (apply Exists.intro
               refine ⟨fun w' hw' => ?_, hK _ ?_⟩
               · obtain ⟨z0, z1, z2, z3⟩ := hcls w' hw'
                 have M1 := HM w'
                 have M2 := HN w' hw'
                 go_simp
                 first
                   | rfl
                   | (refine M1.mono ?_; rintro e w1 ⟨rfl, hb⟩; exact ⟨rfl, hw'.trans (hb.mono hw'.size)⟩)
                   | (refine M2.mono ?_; rintro e w1 ⟨rfl, hb⟩; exact ⟨rfl, hw'.trans (hb.mono hw'.size)⟩)
               clear hK K)
        refine wpQuiet_nil ?_
        intro W2 hW2
        have hB2 : Below w.heap.size w W2 := Below.on' hBV hW2
        have hX2 := hXV.below hW2
        clear hcls HM HN hW2 hXV
        go_wp2
        go_ret
        exact RV.mk (by rw [HF.out]; rfl) hB2
    · obtain rfl : k = s.length := by omega
      have HS : Hid (sentB s = true) := Lib.hid (upto_all HX.out)
      clear HX
      obtain ⟨x0, x1, x2, _, _, _⟩ := id hX
      by_cases g3 : (s.length : Int) ≤ 30
      rotate_left
      · have HF : Hid (chanW s r h = false) := Lib.hid (by
          have : decide (s.length ≤ 30) = false := by simp; omega
          rw [chanW, this]; simp)
        go_wp2
        go_ret
        exact RV.mk (by rw [HF.out]; rfl) hB
      have H3 : Hid (chanW s r h = (withB r s && withB h r)) := Lib.hid (by
        have : decide (s.length ≤ 30) = true := by simp; omega
        rw [chanW, this, HS.out]; simp)
      go_wp2_with fail
      refine (raWithin_any Ar cr r As cs s _ hlr hcr (hSr.below hB).all hls (hSs.below hB).all).mono ?_
      rintro e w1 ⟨rfl, hb⟩
      replace hX := hX.below hb
      have hB1 := Below.on' hB hb
      clear x0 x1 x2 hb
      obtain ⟨x0, x1, x2, _, _, _⟩ := id hX
      by_cases g4 : withB r s = true
      rotate_left
      · have g4 : withB r s = false := by simpa using g4
        rw [g4] at H3 ⊢
        go_wp2
        go_ret
        exact RV.mk (by rw [H3.out]; rfl) hB1
      rw [g4] at H3 ⊢
      go_wp2_with fail
      refine (raWithin_any Ah ch h Ar cr r _ hlh hch (hSh.below hB1).all hlr (hSr.below hB1).all).mono ?_
      rintro e w2 ⟨rfl, hb⟩
      have hB2 := Below.on' hB1 hb
      go_wp2
      go_ret
      exact RV.mk (by rw [H3.out, Bool.true_and]; rfl) hB2
end Go.Proofs.Ytacjdapfbmdddaa

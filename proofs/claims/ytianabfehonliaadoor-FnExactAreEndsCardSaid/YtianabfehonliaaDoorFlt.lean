/- Fleets, as the program and the reference test them. Condition: at most 2^20 appliances, names of at most 2^20. -/
import Derived.Test.YtianabfehonliaaDoorChanP
import Derived.Test.YtianabfehonliaaDoorAppIdx
import Derived.BigQuiet
import Derived.Laws.Cover1
namespace Go.Proofs.YtianabfehonliaaDoor
open Go.RowKit

def fltAt (l : List App) (i : Nat) : Bool := match l[i]? with
  | some a => appB a && (match i with | 0 => true | j + 1 => (match l[j]? with | some b => Op.bytesLess b.nm.toList a.nm.toList | none => false))
  | none => false
def fleetB (l : List App) : Bool := (List.range l.length).all (fltAt l) && decide (l.length ≤ 12)
theorem fltAt_0 {l : List App} {a : App} (hx : l[0]? = some a) : fltAt l 0 = appB a := by simp [fltAt, hx]
theorem fltAt_s {l : List App} {q : Nat} {a b : App} (hx : l[q + 1]? = some a) (hy : l[q]? = some b) : fltAt l (q + 1) = (appB a && Op.bytesLess b.nm.toList a.nm.toList) := by simp [fltAt, hx, hy]
set_option maxRecDepth 100000 in
set_option maxHeartbeats 8000000 in
theorem isFleet_any (Al : Option Addr) (cl : Nat) (l : List App) (w : World) (hl : l.length ≤ 1048576) (hm : ∀ y ∈ l, y.nm.size ≤ 1048576) (hS : Apps w 0 w.heap.size Al l) :
    Calls Tryd.prog 49 #[.slice Al l.length cl] w (RV w (.bool (fleetB l))) := by
  go_enter Tryd.func49, Tryd.ntmps49
  go_wp2_with fail
  go_loopw [7] (fun i wr => ∃ k : Nat, k ≤ l.length ∧ i = .int .i64 k ∧ Hid (∀ i, i < k → fltAt l i = true) ∧ Below w.heap.size w wr) (fun i _ => l.length - (intOf i).toNat)
  case atStart => exact ⟨0, Nat.zero_le _, rfl, Lib.hid (fun i hi => absurd hi (Nat.not_lt_zero i)), Below.refl _ _⟩
  case round =>
    obtain ⟨k, hk, rfl, HX, hB⟩ := hrel
    have hz := hB.size
    by_cases hlt : k < l.length
    · obtain ⟨a, hx, hxM⟩ := get_lt hlt
      have hn := hm _ hxM
      have hSr := (hS.below hB)
      obtain ⟨b, off, rfl, _, kb, _, hf⟩ := hSr.at_ hx
      have c0 : wr.cell? ⟨b, off + k * 5, none⟩ = some (.string a.nm) := (hf 0 _ rfl).1
      have c1 : wr.cell? ⟨b, off + k * 5 + 1, none⟩ = some (.int .i64 a.kd) := (hf 1 _ rfl).1
      have c2 : wr.cell? ⟨b, off + k * 5 + 2, none⟩ = some (.int .i64 a.nd) := (hf 2 _ rfl).1
      have c3 : wr.cell? ⟨b, off + k * 5 + 3, none⟩ = some (.int .i64 a.cw) := (hf 3 _ rfl).1
      have c4 : wr.cell? ⟨b, off + k * 5 + 4, none⟩ = some (.int .i64 a.st) := (hf 4 _ rfl).1
      have hcls0 : ∀ W, Below (wr.alloc (.cells #[.string a.nm, .int .i64 a.kd, .int .i64 a.nd, .int .i64 a.cw, .int .i64 a.st] 75)).heap.size (wr.alloc (.cells #[.string a.nm, .int .i64 a.kd, .int .i64 a.nd, .int .i64 a.cw, .int .i64 a.st] 75)) W → W.cell? ⟨wr.heap.size, 0, none⟩ = some (.string a.nm) ∧ W.cell? ⟨wr.heap.size, 1, none⟩ = some (.int .i64 a.kd) ∧ W.cell? ⟨wr.heap.size, 2, none⟩ = some (.int .i64 a.nd) ∧ W.cell? ⟨wr.heap.size, 3, none⟩ = some (.int .i64 a.cw) ∧ W.cell? ⟨wr.heap.size, 4, none⟩ = some (.int .i64 a.st) := fun W hb =>
        have H := fun t u hu => keep hb (new_cells (E := App.cells) wr 75 a _ rfl t u hu)
        ⟨H 0 _ rfl, H 1 _ rfl, H 2 _ rfl, H 3 _ rfl, H 4 _ rfl⟩
      have HM : ∀ W, Calls Tryd.prog 68 #[.agg #[.string a.nm, .int .i64 a.kd, .int .i64 a.nd, .int .i64 a.cw, .int .i64 a.st]] W (RV W (.bool (appB a))) := fun W => isAppliance_any a W hn
      have hBV : Below w.heap.size w (wr.alloc (.cells #[.string a.nm, .int .i64 a.kd, .int .i64 a.nd, .int .i64 a.cw, .int .i64 a.st] 75)) := by go_grown
      clear hf hxM
      cases k with
      | zero =>
        have HE := Lib.hid (fltAt_0 hx)
        clear hx hSr
        have hcls := hcls0
        clear hcls0
        simp only [Nat.zero_mul, Nat.add_zero] at c0 c1 c2 c3 c4
        go_wp2_with fail
        generalize wr.alloc (.cells #[.string a.nm, .int .i64 a.kd, .int .i64 a.nd, .int .i64 a.cw, .int .i64 a.st] 75) = V at hcls hBV ⊢
        clear c0 c1 c2 c3 c4
        cases g1 : appB a with
        | false =>
          rw [g1] at HM
          have HF : Hid (fleetB l = false) := Lib.hid (by rw [fleetB, upto_no hlt (by rw [HE.out, g1])]; rfl)
          clear HE HX g1
          go_wp2_with fail
          refine wp_region_quiet (C := fun w' => Below V.heap.size V w') (by kernel_rfl) (by kernel_rfl) ((Below.refl _ _).drew) ?_
          dsimp only [Array.toList]
          iterate 18
            with_reducible refine wpQuiet_step (fun K hK => ?_)
            go_simp
            first
              | (refine hK _ ?_; clear hK K)
              | (apply Exists.intro
                 refine ⟨fun w' hw' => ?_, hK _ ?_⟩
                 · have hzz := hcls w' hw'
                   have M1 := HM w'
                   go_split_ands
                   go_simp
                   first
                     | rfl
                     | (refine M1.mono ?_; rintro e w1 ⟨rfl, hb⟩; exact ⟨rfl, hw'.trans (hb.mono hw'.size)⟩)
                 clear hK K)
          refine wpQuiet_nil ?_
          intro W2 hW2
          have hB2 : Below w.heap.size w W2 := Below.on' hBV hW2
          clear hcls HM hW2
          go_wp2
          go_ret
          exact RV.mk (by rw [HF.out]; rfl) hB2
        | true =>
          rw [g1] at HM
          have HX' := Lib.hid (upto_step HX.out (by rw [HE.out, g1]))
          clear HE HX g1
          go_wp2_with fail
          refine wp_region_quiet (C := fun w' => Below V.heap.size V w') (by kernel_rfl) (by kernel_rfl) ((Below.refl _ _).drew) ?_
          dsimp only [Array.toList]
          iterate 18
            with_reducible refine wpQuiet_step (fun K hK => ?_)
            go_simp
            first
              | (refine hK _ ?_; clear hK K)
              | (apply Exists.intro
                 refine ⟨fun w' hw' => ?_, hK _ ?_⟩
                 · have hzz := hcls w' hw'
                   have M1 := HM w'
                   go_split_ands
                   go_simp
                   first
                     | rfl
                     | (refine M1.mono ?_; rintro e w1 ⟨rfl, hb⟩; exact ⟨rfl, hw'.trans (hb.mono hw'.size)⟩)
                 clear hK K)
          refine wpQuiet_nil ?_
          intro W2 hW2
          have hB2 : Below w.heap.size w W2 := Below.on' hBV hW2
          clear hcls HM hW2
          go_wp2
          go_roundw
          case rel => exact ⟨0 + 1, by omega, by go_num, HX', hB2⟩
          case measure => simp [intOf]; omega
      | succ q =>
        obtain ⟨p, hy, _⟩ := get_lt (by omega : q < l.length)
        have HE := Lib.hid (fltAt_s hx hy)
        obtain ⟨b', off', e, _, kb', _, hg⟩ := hSr.at_ hy
        injection e with e
        injection e with e1 e2
        subst e1 e2
        have d0 : wr.cell? ⟨b, off + q * 5, none⟩ = some (.string p.nm) := (hg 0 _ rfl).1
        have hcls : ∀ W, Below (wr.alloc (.cells #[.string a.nm, .int .i64 a.kd, .int .i64 a.nd, .int .i64 a.cw, .int .i64 a.st] 75)).heap.size (wr.alloc (.cells #[.string a.nm, .int .i64 a.kd, .int .i64 a.nd, .int .i64 a.cw, .int .i64 a.st] 75)) W → W.cell? ⟨b, off + q * 5, none⟩ = some (.string p.nm) ∧ W.cell? ⟨wr.heap.size, 0, none⟩ = some (.string a.nm) ∧ W.cell? ⟨wr.heap.size, 1, none⟩ = some (.int .i64 a.kd) ∧ W.cell? ⟨wr.heap.size, 2, none⟩ = some (.int .i64 a.nd) ∧ W.cell? ⟨wr.heap.size, 3, none⟩ = some (.int .i64 a.cw) ∧ W.cell? ⟨wr.heap.size, 4, none⟩ = some (.int .i64 a.st) := fun W hb => ⟨keep hb (lay _ d0), hcls0 W hb⟩
        have hwq : IntKind.i64.wrap (q : Int) = q := IntWalk.i64_in _ (by omega)
        have hql : (q : Int) < l.length := by omega
        clear hx hy hSr hg hcls0 d0
        go_wp2_with fail
        generalize wr.alloc (.cells #[.string a.nm, .int .i64 a.kd, .int .i64 a.nd, .int .i64 a.cw, .int .i64 a.st] 75) = V at hcls hBV ⊢
        clear c0 c1 c2 c3 c4
        cases g1 : appB a with
        | false =>
          rw [g1] at HM
          have HF : Hid (fleetB l = false) := Lib.hid (by rw [fleetB, upto_no hlt (by rw [HE.out, g1]; rfl)]; rfl)
          clear HE HX g1
          go_wp2_with fail
          refine wp_region_quiet (C := fun w' => Below V.heap.size V w') (by kernel_rfl) (by kernel_rfl) ((Below.refl _ _).drew) ?_
          dsimp only [Array.toList]
          iterate 18
            with_reducible refine wpQuiet_step (fun K hK => ?_)
            go_simp
            first
              | (refine hK _ ?_; clear hK K)
              | (apply Exists.intro
                 refine ⟨fun w' hw' => ?_, hK _ ?_⟩
                 · have hzz := hcls w' hw'
                   have M1 := HM w'
                   go_split_ands
                   go_simp
                   first
                     | rfl
                     | (refine M1.mono ?_; rintro e w1 ⟨rfl, hb⟩; exact ⟨rfl, hw'.trans (hb.mono hw'.size)⟩)
                 clear hK K)
          refine wpQuiet_nil ?_
          intro W2 hW2
          have hB2 : Below w.heap.size w W2 := Below.on' hBV hW2
          clear hcls HM hW2
          go_wp2
          go_ret
          exact RV.mk (by rw [HF.out]; rfl) hB2
        | true =>
          rw [g1] at HM
          cases g2 : Op.bytesLess p.nm.toList a.nm.toList with
          | false =>
            have HF : Hid (fleetB l = false) := Lib.hid (by rw [fleetB, upto_no hlt (by rw [HE.out, g1, g2]; rfl)]; rfl)
            clear HE HX g1
            go_wp2_with fail
            refine wp_region_quiet (C := fun w' => Below V.heap.size V w') (by kernel_rfl) (by kernel_rfl) ((Below.refl _ _).drew) ?_
            dsimp only [Array.toList]
            iterate 18
              with_reducible refine wpQuiet_step (fun K hK => ?_)
              go_simp
              first
                | (refine hK _ ?_; clear hK K)
                | (apply Exists.intro
                   refine ⟨fun w' hw' => ?_, hK _ ?_⟩
                   · have hzz := hcls w' hw'
                     have M1 := HM w'
                     go_split_ands
                     go_simp
                     first
                       | rfl
                       | (refine M1.mono ?_; rintro e w1 ⟨rfl, hb⟩; exact ⟨rfl, hw'.trans (hb.mono hw'.size)⟩)
                   clear hK K)
            refine wpQuiet_nil ?_
            intro W2 hW2
            have hB2 : Below w.heap.size w W2 := Below.on' hBV hW2
            clear hcls HM hW2
            go_wp2
            go_ret
            exact RV.mk (by rw [HF.out]; rfl) hB2
          | true =>
            have HX' := Lib.hid (upto_step HX.out (by rw [HE.out, g1, g2]; rfl))
            clear HE HX g1
            go_wp2_with fail
            refine wp_region_quiet (C := fun w' => Below V.heap.size V w') (by kernel_rfl) (by kernel_rfl) ((Below.refl _ _).drew) ?_
            dsimp only [Array.toList]
            iterate 18
              with_reducible refine wpQuiet_step (fun K hK => ?_)
              go_simp
              first
                | (refine hK _ ?_; clear hK K)
                | (apply Exists.intro
                   refine ⟨fun w' hw' => ?_, hK _ ?_⟩
                   · have hzz := hcls w' hw'
                     have M1 := HM w'
                     go_split_ands
                     go_simp
                     first
                       | rfl
                       | (refine M1.mono ?_; rintro e w1 ⟨rfl, hb⟩; exact ⟨rfl, hw'.trans (hb.mono hw'.size)⟩)
                   clear hK K)
            refine wpQuiet_nil ?_
            intro W2 hW2
            have hB2 : Below w.heap.size w W2 := Below.on' hBV hW2
            clear hcls HM hW2
            go_wp2
            go_roundw
            case rel => exact ⟨q + 1 + 1, by omega, by go_num, HX', hB2⟩
            case measure => simp [intOf]; omega
    · obtain rfl : k = l.length := by omega
      have HE : Hid (fleetB l = decide ((l.length : Int) ≤ 12)) := Lib.hid (by
        rw [fleetB, upto_all HX.out, Bool.true_and, Bool.eq_iff_iff, decide_eq_true_eq, decide_eq_true_eq]; omega)
      clear HX
      go_wp2
      go_ret
      exact RV.mk (by rw [HE.out]; rfl) hB
set_option maxRecDepth 100000 in
set_option maxHeartbeats 8000000 in
theorem apFleet_any (Al : Option Addr) (cl : Nat) (l : List App) (w : World) (hl : l.length ≤ 1048576) (hm : ∀ y ∈ l, y.nm.size ≤ 1048576) (hS : Apps w 0 w.heap.size Al l) :
    Calls Tryd.prog 41 #[.slice Al l.length cl] w (RV w (.bool (fleetB l))) := by
  go_enter Tryd.func41, Tryd.ntmps41
  go_wp2_with fail
  go_loopw [7] (fun i wr => ∃ k : Nat, k ≤ l.length ∧ i = .int .i64 k ∧ Hid (∀ i, i < k → fltAt l i = true) ∧ Below w.heap.size w wr) (fun i _ => l.length - (intOf i).toNat)
  case atStart => exact ⟨0, Nat.zero_le _, rfl, Lib.hid (fun i hi => absurd hi (Nat.not_lt_zero i)), Below.refl _ _⟩
  case round =>
    obtain ⟨k, hk, rfl, HX, hB⟩ := hrel
    have hz := hB.size
    by_cases hlt : k < l.length
    · obtain ⟨a, hx, hxM⟩ := get_lt hlt
      have hn := hm _ hxM
      have hSr := (hS.below hB)
      obtain ⟨b, off, rfl, _, kb, _, hf⟩ := hSr.at_ hx
      have c0 : wr.cell? ⟨b, off + k * 5, none⟩ = some (.string a.nm) := (hf 0 _ rfl).1
      have c1 : wr.cell? ⟨b, off + k * 5 + 1, none⟩ = some (.int .i64 a.kd) := (hf 1 _ rfl).1
      have c2 : wr.cell? ⟨b, off + k * 5 + 2, none⟩ = some (.int .i64 a.nd) := (hf 2 _ rfl).1
      have c3 : wr.cell? ⟨b, off + k * 5 + 3, none⟩ = some (.int .i64 a.cw) := (hf 3 _ rfl).1
      have c4 : wr.cell? ⟨b, off + k * 5 + 4, none⟩ = some (.int .i64 a.st) := (hf 4 _ rfl).1
      have hcls0 : ∀ W, Below (wr.alloc (.cells #[.string a.nm, .int .i64 a.kd, .int .i64 a.nd, .int .i64 a.cw, .int .i64 a.st] 75)).heap.size (wr.alloc (.cells #[.string a.nm, .int .i64 a.kd, .int .i64 a.nd, .int .i64 a.cw, .int .i64 a.st] 75)) W → W.cell? ⟨wr.heap.size, 0, none⟩ = some (.string a.nm) ∧ W.cell? ⟨wr.heap.size, 1, none⟩ = some (.int .i64 a.kd) ∧ W.cell? ⟨wr.heap.size, 2, none⟩ = some (.int .i64 a.nd) ∧ W.cell? ⟨wr.heap.size, 3, none⟩ = some (.int .i64 a.cw) ∧ W.cell? ⟨wr.heap.size, 4, none⟩ = some (.int .i64 a.st) := fun W hb =>
        have H := fun t u hu => keep hb (new_cells (E := App.cells) wr 75 a _ rfl t u hu)
        ⟨H 0 _ rfl, H 1 _ rfl, H 2 _ rfl, H 3 _ rfl, H 4 _ rfl⟩
      have HM : ∀ W, Calls Tryd.prog 61 #[.agg #[.string a.nm, .int .i64 a.kd, .int .i64 a.nd, .int .i64 a.cw, .int .i64 a.st]] W (RV W (.bool (appB a))) := fun W => apGood_any a W hn
      have hBV : Below w.heap.size w (wr.alloc (.cells #[.string a.nm, .int .i64 a.kd, .int .i64 a.nd, .int .i64 a.cw, .int .i64 a.st] 75)) := by go_grown
      clear hf hxM
      cases k with
      | zero =>
        have HE := Lib.hid (fltAt_0 hx)
        clear hx hSr
        have hcls := hcls0
        clear hcls0
        simp only [Nat.zero_mul, Nat.add_zero] at c0 c1 c2 c3 c4
        go_wp2_with fail
        generalize wr.alloc (.cells #[.string a.nm, .int .i64 a.kd, .int .i64 a.nd, .int .i64 a.cw, .int .i64 a.st] 75) = V at hcls hBV ⊢
        clear c0 c1 c2 c3 c4
        cases g1 : appB a with
        | false =>
          rw [g1] at HM
          have HF : Hid (fleetB l = false) := Lib.hid (by rw [fleetB, upto_no hlt (by rw [HE.out, g1])]; rfl)
          clear HE HX g1
          go_wp2_with fail
          refine wp_region_quiet (C := fun w' => Below V.heap.size V w') (by kernel_rfl) (by kernel_rfl) ((Below.refl _ _).drew) ?_
          dsimp only [Array.toList]
          iterate 18
            with_reducible refine wpQuiet_step (fun K hK => ?_)
            go_simp
            first
              | (refine hK _ ?_; clear hK K)
              | (apply Exists.intro
                 refine ⟨fun w' hw' => ?_, hK _ ?_⟩
                 · have hzz := hcls w' hw'
                   have M1 := HM w'
                   go_split_ands
                   go_simp
                   first
                     | rfl
                     | (refine M1.mono ?_; rintro e w1 ⟨rfl, hb⟩; exact ⟨rfl, hw'.trans (hb.mono hw'.size)⟩)
                 clear hK K)
          refine wpQuiet_nil ?_
          intro W2 hW2
          have hB2 : Below w.heap.size w W2 := Below.on' hBV hW2
          clear hcls HM hW2
          go_wp2
          go_ret
          exact RV.mk (by rw [HF.out]; rfl) hB2
        | true =>
          rw [g1] at HM
          have HX' := Lib.hid (upto_step HX.out (by rw [HE.out, g1]))
          clear HE HX g1
          go_wp2_with fail
          refine wp_region_quiet (C := fun w' => Below V.heap.size V w') (by kernel_rfl) (by kernel_rfl) ((Below.refl _ _).drew) ?_
          dsimp only [Array.toList]
          iterate 18
            with_reducible refine wpQuiet_step (fun K hK => ?_)
            go_simp
            first
              | (refine hK _ ?_; clear hK K)
              | (apply Exists.intro
                 refine ⟨fun w' hw' => ?_, hK _ ?_⟩
                 · have hzz := hcls w' hw'
                   have M1 := HM w'
                   go_split_ands
                   go_simp
                   first
                     | rfl
                     | (refine M1.mono ?_; rintro e w1 ⟨rfl, hb⟩; exact ⟨rfl, hw'.trans (hb.mono hw'.size)⟩)
                 clear hK K)
          refine wpQuiet_nil ?_
          intro W2 hW2
          have hB2 : Below w.heap.size w W2 := Below.on' hBV hW2
          clear hcls HM hW2
          go_wp2
          go_roundw
          case rel => exact ⟨0 + 1, by omega, by go_num, HX', hB2⟩
          case measure => simp [intOf]; omega
      | succ q =>
        obtain ⟨p, hy, _⟩ := get_lt (by omega : q < l.length)
        have HE := Lib.hid (fltAt_s hx hy)
        obtain ⟨b', off', e, _, kb', _, hg⟩ := hSr.at_ hy
        injection e with e
        injection e with e1 e2
        subst e1 e2
        have d0 : wr.cell? ⟨b, off + q * 5, none⟩ = some (.string p.nm) := (hg 0 _ rfl).1
        have hcls : ∀ W, Below (wr.alloc (.cells #[.string a.nm, .int .i64 a.kd, .int .i64 a.nd, .int .i64 a.cw, .int .i64 a.st] 75)).heap.size (wr.alloc (.cells #[.string a.nm, .int .i64 a.kd, .int .i64 a.nd, .int .i64 a.cw, .int .i64 a.st] 75)) W → W.cell? ⟨b, off + q * 5, none⟩ = some (.string p.nm) ∧ W.cell? ⟨wr.heap.size, 0, none⟩ = some (.string a.nm) ∧ W.cell? ⟨wr.heap.size, 1, none⟩ = some (.int .i64 a.kd) ∧ W.cell? ⟨wr.heap.size, 2, none⟩ = some (.int .i64 a.nd) ∧ W.cell? ⟨wr.heap.size, 3, none⟩ = some (.int .i64 a.cw) ∧ W.cell? ⟨wr.heap.size, 4, none⟩ = some (.int .i64 a.st) := fun W hb => ⟨keep hb (lay _ d0), hcls0 W hb⟩
        have hwq : IntKind.i64.wrap (q : Int) = q := IntWalk.i64_in _ (by omega)
        have hql : (q : Int) < l.length := by omega
        clear hx hy hSr hg hcls0 d0
        go_wp2_with fail
        generalize wr.alloc (.cells #[.string a.nm, .int .i64 a.kd, .int .i64 a.nd, .int .i64 a.cw, .int .i64 a.st] 75) = V at hcls hBV ⊢
        clear c0 c1 c2 c3 c4
        cases g1 : appB a with
        | false =>
          rw [g1] at HM
          have HF : Hid (fleetB l = false) := Lib.hid (by rw [fleetB, upto_no hlt (by rw [HE.out, g1]; rfl)]; rfl)
          clear HE HX g1
          go_wp2_with fail
          refine wp_region_quiet (C := fun w' => Below V.heap.size V w') (by kernel_rfl) (by kernel_rfl) ((Below.refl _ _).drew) ?_
          dsimp only [Array.toList]
          iterate 18
            with_reducible refine wpQuiet_step (fun K hK => ?_)
            go_simp
            first
              | (refine hK _ ?_; clear hK K)
              | (apply Exists.intro
                 refine ⟨fun w' hw' => ?_, hK _ ?_⟩
                 · have hzz := hcls w' hw'
                   have M1 := HM w'
                   go_split_ands
                   go_simp
                   first
                     | rfl
                     | (refine M1.mono ?_; rintro e w1 ⟨rfl, hb⟩; exact ⟨rfl, hw'.trans (hb.mono hw'.size)⟩)
                 clear hK K)
          refine wpQuiet_nil ?_
          intro W2 hW2
          have hB2 : Below w.heap.size w W2 := Below.on' hBV hW2
          clear hcls HM hW2
          go_wp2
          go_ret
          exact RV.mk (by rw [HF.out]; rfl) hB2
        | true =>
          rw [g1] at HM
          cases g2 : Op.bytesLess p.nm.toList a.nm.toList with
          | false =>
            have HF : Hid (fleetB l = false) := Lib.hid (by rw [fleetB, upto_no hlt (by rw [HE.out, g1, g2]; rfl)]; rfl)
            clear HE HX g1
            go_wp2_with fail
            refine wp_region_quiet (C := fun w' => Below V.heap.size V w') (by kernel_rfl) (by kernel_rfl) ((Below.refl _ _).drew) ?_
            dsimp only [Array.toList]
            iterate 18
              with_reducible refine wpQuiet_step (fun K hK => ?_)
              go_simp
              first
                | (refine hK _ ?_; clear hK K)
                | (apply Exists.intro
                   refine ⟨fun w' hw' => ?_, hK _ ?_⟩
                   · have hzz := hcls w' hw'
                     have M1 := HM w'
                     go_split_ands
                     go_simp
                     first
                       | rfl
                       | (refine M1.mono ?_; rintro e w1 ⟨rfl, hb⟩; exact ⟨rfl, hw'.trans (hb.mono hw'.size)⟩)
                   clear hK K)
            refine wpQuiet_nil ?_
            intro W2 hW2
            have hB2 : Below w.heap.size w W2 := Below.on' hBV hW2
            clear hcls HM hW2
            go_wp2
            go_ret
            exact RV.mk (by rw [HF.out]; rfl) hB2
          | true =>
            have HX' := Lib.hid (upto_step HX.out (by rw [HE.out, g1, g2]; rfl))
            clear HE HX g1
            go_wp2_with fail
            refine wp_region_quiet (C := fun w' => Below V.heap.size V w') (by kernel_rfl) (by kernel_rfl) ((Below.refl _ _).drew) ?_
            dsimp only [Array.toList]
            iterate 18
              with_reducible refine wpQuiet_step (fun K hK => ?_)
              go_simp
              first
                | (refine hK _ ?_; clear hK K)
                | (apply Exists.intro
                   refine ⟨fun w' hw' => ?_, hK _ ?_⟩
                   · have hzz := hcls w' hw'
                     have M1 := HM w'
                     go_split_ands
                     go_simp
                     first
                       | rfl
                       | (refine M1.mono ?_; rintro e w1 ⟨rfl, hb⟩; exact ⟨rfl, hw'.trans (hb.mono hw'.size)⟩)
                   clear hK K)
            refine wpQuiet_nil ?_
            intro W2 hW2
            have hB2 : Below w.heap.size w W2 := Below.on' hBV hW2
            clear hcls HM hW2
            go_wp2
            go_roundw
            case rel => exact ⟨q + 1 + 1, by omega, by go_num, HX', hB2⟩
            case measure => simp [intOf]; omega
    · obtain rfl : k = l.length := by omega
      have HE : Hid (fleetB l = decide ((l.length : Int) ≤ 12)) := Lib.hid (by
        rw [fleetB, upto_all HX.out, Bool.true_and, Bool.eq_iff_iff, decide_eq_true_eq, decide_eq_true_eq]; omega)
      clear HX
      go_wp2
      go_ret
      exact RV.mk (by rw [HE.out]; rfl) hB
end Go.Proofs.YtianabfehonliaaDoor

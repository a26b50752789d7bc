/- Several texts of this seat, one behind the other. Fleets, as the program and the reference test them. Condition: at most 2^20 appliances, names of at most 2^20. Ends in memory, and the law's own helpers over them. Conditions: at most 2^20 in each list. Ends that come in as arguments, opened; sized; copied. Condition of the copy: at most 2^20 in each list. Ends sized and copied. Condition of the copy: at most 2^20 in each list. -/
import Derived.Test.YtianabfehonliaaGreatDoorLN
import Derived.Test.YtianabfehonliaaGreatDoorLB
import Derived.Test.YtianabfehonliaaGreatDoorLC
import Derived.BigQuiet
import Derived.Laws.Cover1
namespace Go.Proofs.YtianabfehonliaaGreatDoor
open Go.RowKit

def fltAt (l : List App) (i : Nat) : Bool := match l[i]? with
  | some a => appB a && (match i with | 0 => true | j + 1 => (match l[j]? with | some b => Op.bytesLess b.nm.toList a.nm.toList | none => false))
  | none => false
def fleetB (l : List App) : Bool := (List.range l.length).all (fltAt l) && decide (l.length ≤ 12)
theorem fltAt_0 {l : List App} {a : App} (hx : l[0]? = some a) : fltAt l 0 = appB a := by simp [fltAt, hx]
theorem fltAt_s {l : List App} {q : Nat} {a b : App} (hx : l[q + 1]? = some a) (hy : l[q]? = some b) : fltAt l (q + 1) = (appB a && Op.bytesLess b.nm.toList a.nm.toList) := by simp [fltAt, hx, hy]
set_option maxRecDepth 100000 in
set_option maxHeartbeats 8000000 in
theorem isFleet_any (Al : Option Addr) (cl : Nat) (l : List App) (w : World) (hl : l.length ≤ 1048576) (hm : ∀ y ∈ l, y.nm.size ≤ 1048576) (hS : Apps w 0 w.heap.size Al l) :
    Calls Tryz.prog 149 #[.slice Al l.length cl] w (RV w (.bool (fleetB l))) := by
  go_enter Tryz.func149, Tryz.ntmps149
  go_wp2_with fail
  go_loopw [7] (fun i wr => ∃ k : Nat, k ≤ l.length ∧ i = .int .i64 k ∧ Hid (∀ i, i < k → fltAt l i = true) ∧ Below w.heap.size w wr) (fun i _ => l.length - (intOf i).toNat)
  case atStart => exact ⟨0, Nat.zero_le _, rfl, Lib.hid (fun i hi => absurd hi (Nat.not_lt_zero i)), Below.refl _ _⟩
  case round =>
    obtain ⟨k, hk, rfl, HX, hB⟩ := hrel
    have hz := hB.size
    by_cases hlt : k < l.length
    · obtain ⟨a, hx, hxM⟩ := get_lt hlt
      have hn := hm _ hxM
      have hSr := (hS.below hB)
      obtain ⟨b, off, rfl, _, kb, _, hf⟩ := hSr.at_ hx
      have c0 : wr.cell? ⟨b, off + k * 5, none⟩ = some (.string a.nm) := (hf 0 _ rfl).1
      have c1 : wr.cell? ⟨b, off + k * 5 + 1, none⟩ = some (.int .i64 a.kd) := (hf 1 _ rfl).1
      have c2 : wr.cell? ⟨b, off + k * 5 + 2, none⟩ = some (.int .i64 a.nd) := (hf 2 _ rfl).1
      have c3 : wr.cell? ⟨b, off + k * 5 + 3, none⟩ = some (.int .i64 a.cw) := (hf 3 _ rfl).1
      have c4 : wr.cell? ⟨b, off + k * 5 + 4, none⟩ = some (.int .i64 a.st) := (hf 4 _ rfl).1
      have hcls0 : ∀ W, Below (wr.alloc (.cells #[.string a.nm, .int .i64 a.kd, .int .i64 a.nd, .int .i64 a.cw, .int .i64 a.st] 90)).heap.size (wr.alloc (.cells #[.string a.nm, .int .i64 a.kd, .int .i64 a.nd, .int .i64 a.cw, .int .i64 a.st] 90)) W → W.cell? ⟨wr.heap.size, 0, none⟩ = some (.string a.nm) ∧ W.cell? ⟨wr.heap.size, 1, none⟩ = some (.int .i64 a.kd) ∧ W.cell? ⟨wr.heap.size, 2, none⟩ = some (.int .i64 a.nd) ∧ W.cell? ⟨wr.heap.size, 3, none⟩ = some (.int .i64 a.cw) ∧ W.cell? ⟨wr.heap.size, 4, none⟩ = some (.int .i64 a.st) := fun W hb =>
        have H := fun t u hu => keep hb (new_cells (E := App.cells) wr 90 a _ rfl t u hu)
        ⟨H 0 _ rfl, H 1 _ rfl, H 2 _ rfl, H 3 _ rfl, H 4 _ rfl⟩
      have HM : ∀ W, Calls Tryz.prog 185 #[.agg #[.string a.nm, .int .i64 a.kd, .int .i64 a.nd, .int .i64 a.cw, .int .i64 a.st]] W (RV W (.bool (appB a))) := fun W => isAppliance_any a W hn
      have hBV : Below w.heap.size w (wr.alloc (.cells #[.string a.nm, .int .i64 a.kd, .int .i64 a.nd, .int .i64 a.cw, .int .i64 a.st] 90)) := by go_grown
      clear hf hxM
      cases k with
      | zero =>
        have HE := Lib.hid (fltAt_0 hx)
        clear hx hSr
        have hcls := hcls0
        clear hcls0
        simp only [Nat.zero_mul, Nat.add_zero] at c0 c1 c2 c3 c4
        go_wp2_with fail
        generalize wr.alloc (.cells #[.string a.nm, .int .i64 a.kd, .int .i64 a.nd, .int .i64 a.cw, .int .i64 a.st] 90) = V at hcls hBV ⊢
        clear c0 c1 c2 c3 c4
        cases g1 : appB a with
        | false =>
          rw [g1] at HM
          have HF : Hid (fleetB l = false) := Lib.hid (by rw [fleetB, upto_no hlt (by rw [HE.out, g1])]; rfl)
          clear HE HX g1
          go_wp2_with fail
          refine wp_region_quiet (C := fun w' => Below V.heap.size V w') (by kernel_rfl) (by kernel_rfl) ((Below.refl _ _).drew) ?_
          dsimp only [Array.toList]
          iterate 18
            with_reducible refine wpQuiet_step (fun K hK => ?_)
            go_simp
            first
              | (refine hK _ ?_; clear hK K)
              | (apply Exists.intro
                 refine ⟨fun w' hw' => ?_, hK _ ?_⟩
                 · have hzz := hcls w' hw'
                   have M1 := HM w'
                   go_split_ands
                   go_simp
                   first
                     | rfl
                     | (refine M1.mono ?_; rintro e w1 ⟨rfl, hb⟩; exact ⟨rfl, hw'.trans (hb.mono hw'.size)⟩)
                 clear hK K)
          refine wpQuiet_nil ?_
          intro W2 hW2
          have hB2 : Below w.heap.size w W2 := Below.on' hBV hW2
          clear hcls HM hW2
          go_wp2
          go_ret
          exact RV.mk (by rw [HF.out]; rfl) hB2
        | true =>
          rw [g1] at HM
          have HX' := Lib.hid (upto_step HX.out (by rw [HE.out, g1]))
          clear HE HX g1
          go_wp2_with fail
          refine wp_region_quiet (C := fun w' => Below V.heap.size V w') (by kernel_rfl) (by kernel_rfl) ((Below.refl _ _).drew) ?_
          dsimp only [Array.toList]
          iterate 18
            with_reducible refine wpQuiet_step (fun K hK => ?_)
            go_simp
            first
              | (refine hK _ ?_; clear hK K)
              | (apply Exists.intro
                 refine ⟨fun w' hw' => ?_, hK _ ?_⟩
                 · have hzz := hcls w' hw'
                   have M1 := HM w'
                   go_split_ands
                   go_simp
                   first
                     | rfl
                     | (refine M1.mono ?_; rintro e w1 ⟨rfl, hb⟩; exact ⟨rfl, hw'.trans (hb.mono hw'.size)⟩)
                 clear hK K)
          refine wpQuiet_nil ?_
          intro W2 hW2
          have hB2 : Below w.heap.size w W2 := Below.on' hBV hW2
          clear hcls HM hW2
          go_wp2
          go_roundw
          case rel => exact ⟨0 + 1, by omega, by go_num, HX', hB2⟩
          case measure => simp [intOf]; omega
      | succ q =>
        obtain ⟨p, hy, _⟩ := get_lt (by omega : q < l.length)
        have HE := Lib.hid (fltAt_s hx hy)
        obtain ⟨b', off', e, _, kb', _, hg⟩ := hSr.at_ hy
        injection e with e
        injection e with e1 e2
        subst e1 e2
        have d0 : wr.cell? ⟨b, off + q * 5, none⟩ = some (.string p.nm) := (hg 0 _ rfl).1
        have hcls : ∀ W, Below (wr.alloc (.cells #[.string a.nm, .int .i64 a.kd, .int .i64 a.nd, .int .i64 a.cw, .int .i64 a.st] 90)).heap.size (wr.alloc (.cells #[.string a.nm, .int .i64 a.kd, .int .i64 a.nd, .int .i64 a.cw, .int .i64 a.st] 90)) W → W.cell? ⟨b, off + q * 5, none⟩ = some (.string p.nm) ∧ W.cell? ⟨wr.heap.size, 0, none⟩ = some (.string a.nm) ∧ W.cell? ⟨wr.heap.size, 1, none⟩ = some (.int .i64 a.kd) ∧ W.cell? ⟨wr.heap.size, 2, none⟩ = some (.int .i64 a.nd) ∧ W.cell? ⟨wr.heap.size, 3, none⟩ = some (.int .i64 a.cw) ∧ W.cell? ⟨wr.heap.size, 4, none⟩ = some (.int .i64 a.st) := fun W hb => ⟨keep hb (lay _ d0), hcls0 W hb⟩
        have hwq : IntKind.i64.wrap (q : Int) = q := IntWalk.i64_in _ (by omega)
        have hql : (q : Int) < l.length := by omega
        clear hx hy hSr hg hcls0 d0
        go_wp2_with fail
        generalize wr.alloc (.cells #[.string a.nm, .int .i64 a.kd, .int .i64 a.nd, .int .i64 a.cw, .int .i64 a.st] 90) = V at hcls hBV ⊢
        clear c0 c1 c2 c3 c4
        cases g1 : appB a with
        | false =>
          rw [g1] at HM
          have HF : Hid (fleetB l = false) := Lib.hid (by rw [fleetB, upto_no hlt (by rw [HE.out, g1]; rfl)]; rfl)
          clear HE HX g1
          go_wp2_with fail
          refine wp_region_quiet (C := fun w' => Below V.heap.size V w') (by kernel_rfl) (by kernel_rfl) ((Below.refl _ _).drew) ?_
          dsimp only [Array.toList]
          iterate 18
            with_reducible refine wpQuiet_step (fun K hK => ?_)
            go_simp
            first
              | (refine hK _ ?_; clear hK K)
              | (apply Exists.intro
                 refine ⟨fun w' hw' => ?_, hK _ ?_⟩
                 · have hzz := hcls w' hw'
                   have M1 := HM w'
                   go_split_ands
                   go_simp
                   first
                     | rfl
                     | (refine M1.mono ?_; rintro e w1 ⟨rfl, hb⟩; exact ⟨rfl, hw'.trans (hb.mono hw'.size)⟩)
                 clear hK K)
          refine wpQuiet_nil ?_
          intro W2 hW2
          have hB2 : Below w.heap.size w W2 := Below.on' hBV hW2
          clear hcls HM hW2
          go_wp2
          go_ret
          exact RV.mk (by rw [HF.out]; rfl) hB2
        | true =>
          rw [g1] at HM
          cases g2 : Op.bytesLess p.nm.toList a.nm.toList with
          | false =>
            have HF : Hid (fleetB l = false) := Lib.hid (by rw [fleetB, upto_no hlt (by rw [HE.out, g1, g2]; rfl)]; rfl)
            clear HE HX g1
            go_wp2_with fail
            refine wp_region_quiet (C := fun w' => Below V.heap.size V w') (by kernel_rfl) (by kernel_rfl) ((Below.refl _ _).drew) ?_
            dsimp only [Array.toList]
            iterate 18
              with_reducible refine wpQuiet_step (fun K hK => ?_)
              go_simp
              first
                | (refine hK _ ?_; clear hK K)
                | (apply Exists.intro
                   refine ⟨fun w' hw' => ?_, hK _ ?_⟩
                   · have hzz := hcls w' hw'
                     have M1 := HM w'
                     go_split_ands
                     go_simp
                     first
                       | rfl
                       | (refine M1.mono ?_; rintro e w1 ⟨rfl, hb⟩; exact ⟨rfl, hw'.trans (hb.mono hw'.size)⟩)
                   clear hK K)
            refine wpQuiet_nil ?_
            intro W2 hW2
            have hB2 : Below w.heap.size w W2 := Below.on' hBV hW2
            clear hcls HM hW2
            go_wp2
            go_ret
            exact RV.mk (by rw [HF.out]; rfl) hB2
          | true =>
            have HX' := Lib.hid (upto_step HX.out (by rw [HE.out, g1, g2]; rfl))
            clear HE HX g1
            go_wp2_with fail
            refine wp_region_quiet (C := fun w' => Below V.heap.size V w') (by kernel_rfl) (by kernel_rfl) ((Below.refl _ _).drew) ?_
            dsimp only [Array.toList]
            iterate 18
              with_reducible refine wpQuiet_step (fun K hK => ?_)
              go_simp
              first
                | (refine hK _ ?_; clear hK K)
                | (apply Exists.intro
                   refine ⟨fun w' hw' => ?_, hK _ ?_⟩
                   · have hzz := hcls w' hw'
                     have M1 := HM w'
                     go_split_ands
                     go_simp
                     first
                       | rfl
                       | (refine M1.mono ?_; rintro e w1 ⟨rfl, hb⟩; exact ⟨rfl, hw'.trans (hb.mono hw'.size)⟩)
                   clear hK K)
            refine wpQuiet_nil ?_
            intro W2 hW2
            have hB2 : Below w.heap.size w W2 := Below.on' hBV hW2
            clear hcls HM hW2
            go_wp2
            go_roundw
            case rel => exact ⟨q + 1 + 1, by omega, by go_num, HX', hB2⟩
            case measure => simp [intOf]; omega
    · obtain rfl : k = l.length := by omega
      have HE : Hid (fleetB l = decide ((l.length : Int) ≤ 12)) := Lib.hid (by
        rw [fleetB, upto_all HX.out, Bool.true_and, Bool.eq_iff_iff, decide_eq_true_eq, decide_eq_true_eq]; omega)
      clear HX
      go_wp2
      go_ret
      exact RV.mk (by rw [HE.out]; rfl) hB
set_option maxRecDepth 100000 in
set_option maxHeartbeats 8000000 in
theorem apFleet_any (Al : Option Addr) (cl : Nat) (l : List App) (w : World) (hl : l.length ≤ 1048576) (hm : ∀ y ∈ l, y.nm.size ≤ 1048576) (hS : Apps w 0 w.heap.size Al l) :
    Calls Tryz.prog 150 #[.slice Al l.length cl] w (RV w (.bool (fleetB l))) := by
  go_enter Tryz.func150, Tryz.ntmps150
  go_wp2_with fail
  go_loopw [7] (fun i wr => ∃ k : Nat, k ≤ l.length ∧ i = .int .i64 k ∧ Hid (∀ i, i < k → fltAt l i = true) ∧ Below w.heap.size w wr) (fun i _ => l.length - (intOf i).toNat)
  case atStart => exact ⟨0, Nat.zero_le _, rfl, Lib.hid (fun i hi => absurd hi (Nat.not_lt_zero i)), Below.refl _ _⟩
  case round =>
    obtain ⟨k, hk, rfl, HX, hB⟩ := hrel
    have hz := hB.size
    by_cases hlt : k < l.length
    · obtain ⟨a, hx, hxM⟩ := get_lt hlt
      have hn := hm _ hxM
      have hSr := (hS.below hB)
      obtain ⟨b, off, rfl, _, kb, _, hf⟩ := hSr.at_ hx
      have c0 : wr.cell? ⟨b, off + k * 5, none⟩ = some (.string a.nm) := (hf 0 _ rfl).1
      have c1 : wr.cell? ⟨b, off + k * 5 + 1, none⟩ = some (.int .i64 a.kd) := (hf 1 _ rfl).1
      have c2 : wr.cell? ⟨b, off + k * 5 + 2, none⟩ = some (.int .i64 a.nd) := (hf 2 _ rfl).1
      have c3 : wr.cell? ⟨b, off + k * 5 + 3, none⟩ = some (.int .i64 a.cw) := (hf 3 _ rfl).1
      have c4 : wr.cell? ⟨b, off + k * 5 + 4, none⟩ = some (.int .i64 a.st) := (hf 4 _ rfl).1
      have hcls0 : ∀ W, Below (wr.alloc (.cells #[.string a.nm, .int .i64 a.kd, .int .i64 a.nd, .int .i64 a.cw, .int .i64 a.st] 90)).heap.size (wr.alloc (.cells #[.string a.nm, .int .i64 a.kd, .int .i64 a.nd, .int .i64 a.cw, .int .i64 a.st] 90)) W → W.cell? ⟨wr.heap.size, 0, none⟩ = some (.string a.nm) ∧ W.cell? ⟨wr.heap.size, 1, none⟩ = some (.int .i64 a.kd) ∧ W.cell? ⟨wr.heap.size, 2, none⟩ = some (.int .i64 a.nd) ∧ W.cell? ⟨wr.heap.size, 3, none⟩ = some (.int .i64 a.cw) ∧ W.cell? ⟨wr.heap.size, 4, none⟩ = some (.int .i64 a.st) := fun W hb =>
        have H := fun t u hu => keep hb (new_cells (E := App.cells) wr 90 a _ rfl t u hu)
        ⟨H 0 _ rfl, H 1 _ rfl, H 2 _ rfl, H 3 _ rfl, H 4 _ rfl⟩
      have HM : ∀ W, Calls Tryz.prog 186 #[.agg #[.string a.nm, .int .i64 a.kd, .int .i64 a.nd, .int .i64 a.cw, .int .i64 a.st]] W (RV W (.bool (appB a))) := fun W => apGood_any a W hn
      have hBV : Below w.heap.size w (wr.alloc (.cells #[.string a.nm, .int .i64 a.kd, .int .i64 a.nd, .int .i64 a.cw, .int .i64 a.st] 90)) := by go_grown
      clear hf hxM
      cases k with
      | zero =>
        have HE := Lib.hid (fltAt_0 hx)
        clear hx hSr
        have hcls := hcls0
        clear hcls0
        simp only [Nat.zero_mul, Nat.add_zero] at c0 c1 c2 c3 c4
        go_wp2_with fail
        generalize wr.alloc (.cells #[.string a.nm, .int .i64 a.kd, .int .i64 a.nd, .int .i64 a.cw, .int .i64 a.st] 90) = V at hcls hBV ⊢
        clear c0 c1 c2 c3 c4
        cases g1 : appB a with
        | false =>
          rw [g1] at HM
          have HF : Hid (fleetB l = false) := Lib.hid (by rw [fleetB, upto_no hlt (by rw [HE.out, g1])]; rfl)
          clear HE HX g1
          go_wp2_with fail
          refine wp_region_quiet (C := fun w' => Below V.heap.size V w') (by kernel_rfl) (by kernel_rfl) ((Below.refl _ _).drew) ?_
          dsimp only [Array.toList]
          iterate 18
            with_reducible refine wpQuiet_step (fun K hK => ?_)
            go_simp
            first
              | (refine hK _ ?_; clear hK K)
              | (apply Exists.intro
                 refine ⟨fun w' hw' => ?_, hK _ ?_⟩
                 · have hzz := hcls w' hw'
                   have M1 := HM w'
                   go_split_ands
                   go_simp
                   first
                     | rfl
                     | (refine M1.mono ?_; rintro e w1 ⟨rfl, hb⟩; exact ⟨rfl, hw'.trans (hb.mono hw'.size)⟩)
                 clear hK K)
          refine wpQuiet_nil ?_
          intro W2 hW2
          have hB2 : Below w.heap.size w W2 := Below.on' hBV hW2
          clear hcls HM hW2
          go_wp2
          go_ret
          exact RV.mk (by rw [HF.out]; rfl) hB2
        | true =>
          rw [g1] at HM
          have HX' := Lib.hid (upto_step HX.out (by rw [HE.out, g1]))
          clear HE HX g1
          go_wp2_with fail
          refine wp_region_quiet (C := fun w' => Below V.heap.size V w') (by kernel_rfl) (by kernel_rfl) ((Below.refl _ _).drew) ?_
          dsimp only [Array.toList]
          iterate 18
            with_reducible refine wpQuiet_step (fun K hK => ?_)
            go_simp
            first
              | (refine hK _ ?_; clear hK K)
              | (apply Exists.intro
                 refine ⟨fun w' hw' => ?_, hK _ ?_⟩
                 · have hzz := hcls w' hw'
                   have M1 := HM w'
                   go_split_ands
                   go_simp
                   first
                     | rfl
                     | (refine M1.mono ?_; rintro e w1 ⟨rfl, hb⟩; exact ⟨rfl, hw'.trans (hb.mono hw'.size)⟩)
                 clear hK K)
          refine wpQuiet_nil ?_
          intro W2 hW2
          have hB2 : Below w.heap.size w W2 := Below.on' hBV hW2
          clear hcls HM hW2
          go_wp2
          go_roundw
          case rel => exact ⟨0 + 1, by omega, by go_num, HX', hB2⟩
          case measure => simp [intOf]; omega
      | succ q =>
        obtain ⟨p, hy, _⟩ := get_lt (by omega : q < l.length)
        have HE := Lib.hid (fltAt_s hx hy)
        obtain ⟨b', off', e, _, kb', _, hg⟩ := hSr.at_ hy
        injection e with e
        injection e with e1 e2
        subst e1 e2
        have d0 : wr.cell? ⟨b, off + q * 5, none⟩ = some (.string p.nm) := (hg 0 _ rfl).1
        have hcls : ∀ W, Below (wr.alloc (.cells #[.string a.nm, .int .i64 a.kd, .int .i64 a.nd, .int .i64 a.cw, .int .i64 a.st] 90)).heap.size (wr.alloc (.cells #[.string a.nm, .int .i64 a.kd, .int .i64 a.nd, .int .i64 a.cw, .int .i64 a.st] 90)) W → W.cell? ⟨b, off + q * 5, none⟩ = some (.string p.nm) ∧ W.cell? ⟨wr.heap.size, 0, none⟩ = some (.string a.nm) ∧ W.cell? ⟨wr.heap.size, 1, none⟩ = some (.int .i64 a.kd) ∧ W.cell? ⟨wr.heap.size, 2, none⟩ = some (.int .i64 a.nd) ∧ W.cell? ⟨wr.heap.size, 3, none⟩ = some (.int .i64 a.cw) ∧ W.cell? ⟨wr.heap.size, 4, none⟩ = some (.int .i64 a.st) := fun W hb => ⟨keep hb (lay _ d0), hcls0 W hb⟩
        have hwq : IntKind.i64.wrap (q : Int) = q := IntWalk.i64_in _ (by omega)
        have hql : (q : Int) < l.length := by omega
        clear hx hy hSr hg hcls0 d0
        go_wp2_with fail
        generalize wr.alloc (.cells #[.string a.nm, .int .i64 a.kd, .int .i64 a.nd, .int .i64 a.cw, .int .i64 a.st] 90) = V at hcls hBV ⊢
        clear c0 c1 c2 c3 c4
        cases g1 : appB a with
        | false =>
          rw [g1] at HM
          have HF : Hid (fleetB l = false) := Lib.hid (by rw [fleetB, upto_no hlt (by rw [HE.out, g1]; rfl)]; rfl)
          clear HE HX g1
          go_wp2_with fail
          refine wp_region_quiet (C := fun w' => Below V.heap.size V w') (by kernel_rfl) (by kernel_rfl) ((Below.refl _ _).drew) ?_
          dsimp only [Array.toList]
          iterate 18
            with_reducible refine wpQuiet_step (fun K hK => ?_)
            go_simp
            first
              | (refine hK _ ?_; clear hK K)
              | (apply Exists.intro
                 refine ⟨fun w' hw' => ?_, hK _ ?_⟩
                 · have hzz := hcls w' hw'
                   have M1 := HM w'
                   go_split_ands
                   go_simp
                   first
                     | rfl
                     | (refine M1.mono ?_; rintro e w1 ⟨rfl, hb⟩; exact ⟨rfl, hw'.trans (hb.mono hw'.size)⟩)
                 clear hK K)
          refine wpQuiet_nil ?_
          intro W2 hW2
          have hB2 : Below w.heap.size w W2 := Below.on' hBV hW2
          clear hcls HM hW2
          go_wp2
          go_ret
          exact RV.mk (by rw [HF.out]; rfl) hB2
        | true =>
          rw [g1] at HM
          cases g2 : Op.bytesLess p.nm.toList a.nm.toList with
          | false =>
            have HF : Hid (fleetB l = false) := Lib.hid (by rw [fleetB, upto_no hlt (by rw [HE.out, g1, g2]; rfl)]; rfl)
            clear HE HX g1
            go_wp2_with fail
            refine wp_region_quiet (C := fun w' => Below V.heap.size V w') (by kernel_rfl) (by kernel_rfl) ((Below.refl _ _).drew) ?_
            dsimp only [Array.toList]
            iterate 18
              with_reducible refine wpQuiet_step (fun K hK => ?_)
              go_simp
              first
                | (refine hK _ ?_; clear hK K)
                | (apply Exists.intro
                   refine ⟨fun w' hw' => ?_, hK _ ?_⟩
                   · have hzz := hcls w' hw'
                     have M1 := HM w'
                     go_split_ands
                     go_simp
                     first
                       | rfl
                       | (refine M1.mono ?_; rintro e w1 ⟨rfl, hb⟩; exact ⟨rfl, hw'.trans (hb.mono hw'.size)⟩)
                   clear hK K)
            refine wpQuiet_nil ?_
            intro W2 hW2
            have hB2 : Below w.heap.size w W2 := Below.on' hBV hW2
            clear hcls HM hW2
            go_wp2
            go_ret
            exact RV.mk (by rw [HF.out]; rfl) hB2
          | true =>
            have HX' := Lib.hid (upto_step HX.out (by rw [HE.out, g1, g2]; rfl))
            clear HE HX g1
            go_wp2_with fail
            refine wp_region_quiet (C := fun w' => Below V.heap.size V w') (by kernel_rfl) (by kernel_rfl) ((Below.refl _ _).drew) ?_
            dsimp only [Array.toList]
            iterate 18
              with_reducible refine wpQuiet_step (fun K hK => ?_)
              go_simp
              first
                | (refine hK _ ?_; clear hK K)
                | (apply Exists.intro
                   refine ⟨fun w' hw' => ?_, hK _ ?_⟩
                   · have hzz := hcls w' hw'
                     have M1 := HM w'
                     go_split_ands
                     go_simp
                     first
                       | rfl
                       | (refine M1.mono ?_; rintro e w1 ⟨rfl, hb⟩; exact ⟨rfl, hw'.trans (hb.mono hw'.size)⟩)
                   clear hK K)
            refine wpQuiet_nil ?_
            intro W2 hW2
            have hB2 : Below w.heap.size w W2 := Below.on' hBV hW2
            clear hcls HM hW2
            go_wp2
            go_roundw
            case rel => exact ⟨q + 1 + 1, by omega, by go_num, HX', hB2⟩
            case measure => simp [intOf]; omega
    · obtain rfl : k = l.length := by omega
      have HE : Hid (fleetB l = decide ((l.length : Int) ≤ 12)) := Lib.hid (by
        rw [fleetB, upto_all HX.out, Bool.true_and, Bool.eq_iff_iff, decide_eq_true_eq, decide_eq_true_eq]; omega)
      clear HX
      go_wp2
      go_ret
      exact RV.mk (by rw [HE.out]; rfl) hB
end Go.Proofs.YtianabfehonliaaGreatDoor
namespace Go.Proofs.YtianabfehonliaaGreatDoor
open Go.RowKit

/-- A box of values. -/
def BN (b : Nat) (vs : List Value) (X : World) : Prop := ∀ j v, vs[j]? = some v → X.cell? ⟨b, j, none⟩ = some v ∧ X.frozen? ⟨b, j, none⟩ = false
section
variable {b : Nat} {vs : List Value} {X X' : World}
theorem BN.same (a : BN b vs X) (e : X'.heap[b]? = X.heap[b]?) : BN b vs X' := fun j v h => ⟨(World.cell?_of_block (a := ⟨b, j, none⟩) e).trans (a j v h).1, (World.frozen?_of_block (a := ⟨b, j, none⟩) e).trans (a j v h).2⟩
theorem BN.lt (a : BN b vs X) (h : vs ≠ []) : b < X.heap.size := by
  cases vs with
  | nil => exact absurd rfl h
  | cons v l => exact World.block_lt_of_cell? _ _ (a 0 v rfl).1
theorem BN.upto {B : Nat} (a : BN b vs X) (hB : b < B) (hb : Below B X X') : BN b vs X' := a.same (hb.block b hB)
theorem BN.new (w : World) (cs : Array Value) (T : TypeId) (n : Nat) (hn : n = w.heap.size) : BN n cs.toList (w.alloc (.cells cs T)) := fun j v h => by
  subst hn
  refine ⟨?_, World.frozen?_alloc_at _ _ _ _ rfl⟩
  rw [World.cell?_alloc_at _ _ _ _ rfl]
  simpa using h
end
def cells5 (b : Nat) (v0 v1 v2 v3 v4 : Value) (X : World) : Prop := X.cell? ⟨b, 0, none⟩ = some v0 ∧ X.cell? ⟨b, 1, none⟩ = some v1 ∧ X.cell? ⟨b, 2, none⟩ = some v2 ∧ X.cell? ⟨b, 3, none⟩ = some v3 ∧ X.cell? ⟨b, 4, none⟩ = some v4
theorem cells5.new (w : World) (v0 v1 v2 v3 v4 : Value) (T : TypeId) (n : Nat) (hn : n = w.heap.size) : cells5 n v0 v1 v2 v3 v4 (w.alloc (.cells #[v0, v1, v2, v3, v4] T)) := by
  subst hn
  exact ⟨by simp, by simp, by simp, by simp, by simp⟩
theorem cells5.below {b : Nat} {v0 v1 v2 v3 v4 : Value} {X X' : World} (a : cells5 b v0 v1 v2 v3 v4 X) (hb : Below X.heap.size X X') : cells5 b v0 v1 v2 v3 v4 X' := ⟨keep hb a.1, keep hb a.2.1, keep hb a.2.2.1, keep hb a.2.2.2.1, keep hb a.2.2.2.2⟩
theorem cells5.lt {b : Nat} {v0 v1 v2 v3 v4 : Value} {X : World} (a : cells5 b v0 v1 v2 v3 v4 X) : b < X.heap.size := World.block_lt_of_cell? _ _ a.1
theorem cells5.alloc {b : Nat} {v0 v1 v2 v3 v4 : Value} {X : World} (a : cells5 b v0 v1 v2 v3 v4 X) (o : Obj) : cells5 b v0 v1 v2 v3 v4 (X.alloc o) := a.below ((Below.refl _ _).alloc (Nat.le_refl _) o)
theorem cells5.fr {b lo hi : Nat} {v0 v1 v2 v3 v4 : Value} {X X' : World} (a : cells5 b v0 v1 v2 v3 v4 X) (hF : Fr lo hi X X') (hd : b < lo ∨ hi ≤ b) : cells5 b v0 v1 v2 v3 v4 X' :=
  have e : ∀ o, X'.cell? ⟨b, o, none⟩ = X.cell? ⟨b, o, none⟩ := fun o => World.cell?_of_block (a := ⟨b, o, none⟩) (hF.block b a.lt (by omega))
  ⟨(e _).trans a.1, (e _).trans a.2.1, (e _).trans a.2.2.1, (e _).trans a.2.2.2.1, (e _).trans a.2.2.2.2⟩
theorem cells5.set5 {b : Nat} {u0 u1 u2 u3 u4 : Value} {X : World} (a : cells5 b u0 u1 u2 u3 u4 X) (v0 v1 v2 v3 v4 : Value) : cells5 b v0 v1 v2 v3 v4 (((((X.setCell ⟨b, 0, none⟩ v0).setCell ⟨b, 1, none⟩ v1).setCell ⟨b, 2, none⟩ v2).setCell ⟨b, 3, none⟩ v3).setCell ⟨b, 4, none⟩ v4) :=
  ⟨((World.cell?_setCell_other _ _ _ _ (by simp)).trans (((World.cell?_setCell_other _ _ _ _ (by simp)).trans (((World.cell?_setCell_other _ _ _ _ (by simp)).trans (((World.cell?_setCell_other _ _ _ _ (by simp)).trans (World.cell?_setCell_same _ _ _ (a.1))))))))), ((World.cell?_setCell_other _ _ _ _ (by simp)).trans (((World.cell?_setCell_other _ _ _ _ (by simp)).trans (((World.cell?_setCell_other _ _ _ _ (by simp)).trans (World.cell?_setCell_same _ _ _ (((World.cell?_setCell_other _ _ _ _ (by simp)).trans a.2.1)))))))), ((World.cell?_setCell_other _ _ _ _ (by simp)).trans (((World.cell?_setCell_other _ _ _ _ (by simp)).trans (World.cell?_setCell_same _ _ _ (((World.cell?_setCell_other _ _ _ _ (by simp)).trans ((World.cell?_setCell_other _ _ _ _ (by simp)).trans a.2.2.1))))))), ((World.cell?_setCell_other _ _ _ _ (by simp)).trans (World.cell?_setCell_same _ _ _ (((World.cell?_setCell_other _ _ _ _ (by simp)).trans ((World.cell?_setCell_other _ _ _ _ (by simp)).trans ((World.cell?_setCell_other _ _ _ _ (by simp)).trans a.2.2.2.1)))))), World.cell?_setCell_same _ _ _ (((World.cell?_setCell_other _ _ _ _ (by simp)).trans ((World.cell?_setCell_other _ _ _ _ (by simp)).trans ((World.cell?_setCell_other _ _ _ _ (by simp)).trans ((World.cell?_setCell_other _ _ _ _ (by simp)).trans a.2.2.2.2)))))⟩
set_option maxHeartbeats 2000000 in
theorem eqEnds_same (Af Af2 : Option Addr) (cf cf2 : Nat) (f : List App) (lof hif lof2 hif2 : Nat) (An An2 : Option Addr) (cn cn2 : Nat) (n : List App) (lon hin lon2 hin2 : Nat) (As As2 : Option Addr) (cs cs2 : Nat) (s : List Msg) (los his los2 his2 : Nat) (Ar Ar2 : Option Addr) (cr cr2 : Nat) (r : List Msg) (lor hir lor2 hir2 : Nat) (Ah Ah2 : Option Addr) (ch ch2 : Nat) (h : List Msg) (loh hih loh2 hih2 : Nat) (w : World) (hlf : f.length ≤ 1048576) (hSf : Apps w lof hif Af f) (hSf2 : Apps w lof2 hif2 Af2 f) (hln : n.length ≤ 1048576) (hSn : Apps w lon hin An n) (hSn2 : Apps w lon2 hin2 An2 n) (hls : s.length ≤ 1048576) (hSs : Msgs w los his As s) (hSs2 : Msgs w los2 his2 As2 s) (hlr : r.length ≤ 1048576) (hSr : Msgs w lor hir Ar r) (hSr2 : Msgs w lor2 hir2 Ar2 r) (hlh : h.length ≤ 1048576) (hSh : Msgs w loh hih Ah h) (hSh2 : Msgs w loh2 hih2 Ah2 h) :
    Calls Tryz.prog 17 #[.agg #[.slice Af f.length cf, .slice An n.length cn, .slice As s.length cs, .slice Ar r.length cr, .slice Ah h.length ch], .agg #[.slice Af2 f.length cf2, .slice An2 n.length cn2, .slice As2 s.length cs2, .slice Ar2 r.length cr2, .slice Ah2 h.length ch2]] w (RV w (.bool true)) := by
  have e1 : (w.alloc (.cells #[.slice Af f.length cf, .slice An n.length cn, .slice As s.length cs, .slice Ar r.length cr, .slice Ah h.length ch] 36)).heap.size = w.heap.size + 1 := by simp
  have hX := (cells5.new w (.slice Af f.length cf) (.slice An n.length cn) (.slice As s.length cs) (.slice Ar r.length cr) (.slice Ah h.length ch) 36 _ rfl).alloc (.cells #[.slice Af2 f.length cf2, .slice An2 n.length cn2, .slice As2 s.length cs2, .slice Ar2 r.length cr2, .slice Ah2 h.length ch2] 36)
  have hY := cells5.new (w.alloc (.cells #[.slice Af f.length cf, .slice An n.length cn, .slice As s.length cs, .slice Ar r.length cr, .slice Ah h.length ch] 36)) (.slice Af2 f.length cf2) (.slice An2 n.length cn2) (.slice As2 s.length cs2) (.slice Ar2 r.length cr2) (.slice Ah2 h.length ch2) 36 (w.heap.size + 1) e1.symm
  obtain ⟨b0, b1, b2, b3, b4⟩ := id hX
  obtain ⟨d0, d1, d2, d3, d4⟩ := id hY
  go_enter Tryz.func17, Tryz.ntmps17
  go_wp2_with fail
  refine (eqApplianceS_same Af Af2 cf cf2 _ _ _ _ f _ hlf ((hSf.alloc _).alloc _) ((hSf2.alloc _).alloc _)).mono ?_
  rintro e w1 ⟨rfl, hb⟩
  have hB : Below w.heap.size w w1 := Below.on' (by go_grown) hb
  replace hX := hX.below hb
  replace hY := hY.below hb
  clear b0 d0 b1 d1 b2 d2 b3 d3 b4 d4 hb
  obtain ⟨b0, b1, b2, b3, b4⟩ := id hX
  obtain ⟨d0, d1, d2, d3, d4⟩ := id hY
  have hx0 := hX.lt
  have hy0 := hY.lt
  go_wp2_with fail
  refine (eqApplianceS_same An An2 cn cn2 _ _ _ _ n _ hln (hSn.below hB) (hSn2.below hB)).mono ?_
  rintro e w2 ⟨rfl, hb⟩
  replace hB : Below w.heap.size w w2 := Below.on' hB hb
  replace hX := hX.below hb
  replace hY := hY.below hb
  clear b0 d0 b1 d1 b2 d2 b3 d3 b4 d4 hb
  obtain ⟨b0, b1, b2, b3, b4⟩ := id hX
  obtain ⟨d0, d1, d2, d3, d4⟩ := id hY
  have hx1 := hX.lt
  have hy1 := hY.lt
  go_wp2_with fail
  refine (eqChannel_same As As2 cs cs2 s _ _ _ _ Ar Ar2 cr cr2 r _ _ _ _ Ah Ah2 ch ch2 h _ _ _ _ _ hls (hSs.below hB) (hSs2.below hB) hlr (hSr.below hB) (hSr2.below hB) hlh (hSh.below hB) (hSh2.below hB)).mono ?_
  rintro e w3 ⟨rfl, hb⟩
  replace hB : Below w.heap.size w w3 := Below.on' hB hb
  replace hX := hX.below hb
  replace hY := hY.below hb
  clear b0 d0 b1 d1 b2 d2 b3 d3 b4 d4 hb
  obtain ⟨b0, b1, b2, b3, b4⟩ := id hX
  obtain ⟨d0, d1, d2, d3, d4⟩ := id hY
  have hx2 := hX.lt
  have hy2 := hY.lt
  go_wp2
  go_ret
  exact RV.mk rfl hB
set_option maxHeartbeats 2000000 in
theorem heldEnds_any (Af : Option Addr) (cf nf lof hif : Nat) (An : Option Addr) (cn nn lon hin : Nat) (As : Option Addr) (cs ns los his : Nat) (Ar : Option Addr) (cr nr lor hir : Nat) (Ah : Option Addr) (ch nh loh hih : Nat) (k : Int) (w : World) (hlf : nf ≤ 1048576) (hSf : Apps w lof hif Af (App.mkL k nf)) (hln : nn ≤ 1048576) (hSn : Apps w lon hin An (App.mkL (k + 5 * nf) nn)) (hls : ns ≤ 1048576) (hSs : Msgs w los his As (Msg.mkL (k + 5 * nf + 5 * nn) ns)) (hlr : nr ≤ 1048576) (hSr : Msgs w lor hir Ar (Msg.mkL (k + 5 * nf + 5 * nn + 3 * ns) nr)) (hlh : nh ≤ 1048576) (hSh : Msgs w loh hih Ah (Msg.mkL (k + 5 * nf + 5 * nn + 3 * ns + 3 * nr) nh)) (hk0 : 1 ≤ k) (hk1 : k ≤ 1000000) :
    Calls Tryz.prog 31 #[.agg #[.slice Af nf cf, .slice An nn cn, .slice As ns cs, .slice Ar nr cr, .slice Ah nh ch], .int .i64 k] w (RV w (.int .i64 (k + 5 * nf + 5 * nn + 3 * ns + 3 * nr + 3 * nh))) := by
  have hX := cells5.new w (.slice Af nf cf) (.slice An nn cn) (.slice As ns cs) (.slice Ar nr cr) (.slice Ah nh ch) 36 _ rfl
  obtain ⟨b0, b1, b2, b3, b4⟩ := id hX
  go_enter Tryz.func31, Tryz.ntmps31
  go_wp2_with fail
  refine (heldApplianceS_any Af cf _ _ nf k _ hlf (by omega) (by omega) (hSf.alloc _)).mono ?_
  rintro e w1 ⟨rfl, hb⟩
  have hB : Below w.heap.size w w1 := Below.on' (by go_grown) hb
  replace hX := hX.below hb
  clear b0 b1 b2 b3 b4 hb
  obtain ⟨b0, b1, b2, b3, b4⟩ := id hX
  have hx0 := hX.lt
  go_wp2_with fail
  refine (heldApplianceS_any An cn _ _ nn (k + 5 * nf) _ hln (by omega) (by omega) (hSn.below hB)).mono ?_
  rintro e w2 ⟨rfl, hb⟩
  replace hB : Below w.heap.size w w2 := Below.on' hB hb
  replace hX := hX.below hb
  clear b0 b1 b2 b3 b4 hb
  obtain ⟨b0, b1, b2, b3, b4⟩ := id hX
  have hx1 := hX.lt
  go_wp2_with fail
  refine (heldChannel_any As cs ns _ _ Ar cr nr _ _ Ah ch nh _ _ (k + 5 * nf + 5 * nn) _ hls (hSs.below hB) hlr (hSr.below hB) hlh (hSh.below hB) (by omega) (by omega)).mono ?_
  rintro e w3 ⟨rfl, hb⟩
  replace hB : Below w.heap.size w w3 := Below.on' hB hb
  replace hX := hX.below hb
  clear b0 b1 b2 b3 b4 hb
  obtain ⟨b0, b1, b2, b3, b4⟩ := id hX
  have hx2 := hX.lt
  go_wp2
  go_ret
  exact RV.mk rfl hB
theorem Fr.empty {lo hi : Nat} {w w' : World} (h : Fr 0 0 w w') : Fr lo hi w w' := ⟨h.os, h.tape, h.output, h.size, fun b hb _ => h.block b hb (by omega)⟩
set_option maxHeartbeats 4000000 in
theorem markEnds_nil (Af : Option Addr) (cf lof hif : Nat) (f : List App) (An : Option Addr) (cn lon hin : Nat) (n : List App) (k : Int) (w : World) (hlf : f.length ≤ 1048576) (hSf : Apps w lof hif Af f) (hln : n.length ≤ 1048576) (hSn : Apps w lon hin An n) (hk0 : 1 ≤ k) (hk1 : k ≤ 1000000) (lo hi : Nat) (df : lo ≤ lof ∧ lof ≤ hif ∧ hif ≤ hi) (dn : lo ≤ lon ∧ lon ≤ hin ∧ hin ≤ hi) (dz : hi ≤ w.heap.size) (dfn : hif ≤ lon ∨ hin ≤ lof) :
    Calls Tryz.prog 21 #[.agg #[.slice Af f.length cf, .slice An n.length cn, .slice none 0 0, .slice none 0 0, .slice none 0 0], .int .i64 k] w fun e w' => e = .returned (.int .i64 (k + 5 * f.length + 5 * n.length)) ∧ Apps w' lof hif Af (App.mkL k f.length) ∧ Apps w' lon hin An (App.mkL (k + 5 * f.length) n.length) ∧ Fr lo hi w w' := by
  have hX := cells5.new w (.slice Af f.length cf) (.slice An n.length cn) (.slice none 0 0) (.slice none 0 0) (.slice none 0 0) 36 _ rfl
  obtain ⟨b0, b1, b2, b3, b4⟩ := id hX
  have hFw : Fr lo hi w (w.alloc (.cells #[.slice Af f.length cf, .slice An n.length cn, .slice none 0 0, .slice none 0 0, .slice none 0 0] 36)) := (Fr.refl _ _ _).alloc _
  replace hSf := hSf.alloc (.cells #[.slice Af f.length cf, .slice An n.length cn, .slice none 0 0, .slice none 0 0, .slice none 0 0] 36)
  replace hSn := hSn.alloc (.cells #[.slice Af f.length cf, .slice An n.length cn, .slice none 0 0, .slice none 0 0, .slice none 0 0] 36)
  go_enter Tryz.func21, Tryz.ntmps21
  go_wp2_with fail
  refine (markApplianceS_any Af cf _ _ f k _ hlf (by omega) (by omega) hSf).mono ?_
  rintro e w1 ⟨rfl, hM, hF⟩
  replace hX := hX.fr hF (by omega)
  clear b0 b1 b2 b3 b4
  obtain ⟨b0, b1, b2, b3, b4⟩ := id hX
  replace hSf := hM
  replace hSn := hSn.fr hF (by omega)
  replace hFw := hFw.trans (hF.wide (by omega) (by omega))
  have hz0 := hFw.size
  have hk0 := hX.lt
  clear hM hF
  go_wp2_with fail
  refine (markApplianceS_any An cn _ _ n (k + 5 * f.length) _ hln (by omega) (by omega) hSn).mono ?_
  rintro e w2 ⟨rfl, hM, hF⟩
  replace hX := hX.fr hF (by omega)
  clear b0 b1 b2 b3 b4
  obtain ⟨b0, b1, b2, b3, b4⟩ := id hX
  replace hSn := hM
  replace hSf := hSf.fr hF (by omega)
  replace hFw := hFw.trans (hF.wide (by omega) (by omega))
  have hz1 := hFw.size
  have hk1 := hX.lt
  clear hM hF
  go_wp2_with fail
  refine (markChannel_any none 0 0 0 [] none 0 0 0 [] none 0 0 0 [] (k + 5 * f.length + 5 * n.length) _ (by simp) Sl.nil_ (by simp) Sl.nil_ (by simp) Sl.nil_ (by omega) (by omega) 0 0 (by omega) (by omega) (by omega) (by omega) (by omega) (by omega) (by omega)).mono ?_
  rintro e w3 ⟨rfl, _, _, _, hF⟩
  replace hSf := hSf.fr hF (by omega)
  replace hSn := hSn.fr hF (by omega)
  replace hFw := hFw.trans hF.empty
  go_wp2
  go_ret
  exact ⟨by simp, hSf, hSn, hFw⟩
def seT (l : List App) : (List App × List App) × Bool := if fleetB l = true then ((l, l), true) else (([], []), false)
theorem seT_len {l : List App} (hl : l.length ≤ 1048576) : (seT l).1.1.length ≤ 1048576 ∧ (seT l).1.2.length ≤ 1048576 := by
  unfold seT
  split <;> simp [hl]
/-- Ends without a message returned, and a bool. -/
def REB (w : World) (f n : List App) (B : Bool) (e : Ending) (w' : World) : Prop :=
  ∃ A1 c1 A2 c2 m, e = .returned (.tuple #[.agg #[.slice A1 f.length c1, .slice A2 n.length c2, .slice none 0 0, .slice none 0 0, .slice none 0 0], .bool B]) ∧ Apps w' w.heap.size m A1 f ∧ Apps w' m w'.heap.size A2 n ∧ w.heap.size ≤ m ∧ m ≤ w'.heap.size ∧ Below w.heap.size w w'
set_option maxRecDepth 100000 in
set_option maxHeartbeats 8000000 in
theorem StartEnds_impl (Al : Option Addr) (cl : Nat) (l : List App) (w : World) (hl : l.length ≤ 1048576) (hm : ∀ y ∈ l, y.nm.size ≤ 1048576) (hS : Apps w 0 w.heap.size Al l) :
    Calls Tryz.prog 63 #[.slice Al l.length cl] w (REB w (seT l).1.1 (seT l).1.2 (seT l).2) := by
  obtain ⟨i0, hi0, hz0, hz1, hz2⟩ := info_parts App.info
  generalize hT : seT l = t
  replace hT := Lib.hid hT
  have hX := cells5.new w (.slice none 0 0) (.slice none 0 0) (.slice none 0 0) (.slice none 0 0) (.slice none 0 0) 36 _ rfl
  have hFz : ∀ j, j < 5 → (w.alloc (.cells #[.slice none 0 0, .slice none 0 0, .slice none 0 0, .slice none 0 0, .slice none 0 0] 36)).frozen? ⟨w.heap.size, j, none⟩ = false := fun j _ => World.frozen?_alloc_at _ _ _ _ rfl
  go_enter Tryz.func63, Tryz.ntmps63
  go_wp2_with fail
  refine (isFleet_any Al cl l _ hl hm (hS.alloc _).all).mono ?_
  rintro e w1 ⟨rfl, hb⟩
  have hB : Below w.heap.size w w1 := Below.on' (by go_grown) hb
  have hlt0 := hX.lt
  replace hX := hX.below hb
  have hfz : ∀ j, j < 5 → w1.frozen? ⟨w.heap.size, j, none⟩ = false := fun j hj => (hb.frozen (p := ⟨w.heap.size, j, none⟩) hlt0).trans (hFz j hj)
  clear hb hFz hlt0
  have hlt := hX.lt
  obtain ⟨b0, b1, b2, b3, b4⟩ := id hX
  have f0 := hfz 0 (by omega)
  have f1 := hfz 1 (by omega)
  have f2 := hfz 2 (by omega)
  have f3 := hfz 3 (by omega)
  have f4 := hfz 4 (by omega)
  by_cases g : fleetB l = true
  rotate_left
  · have g' : fleetB l = false := by simpa using g
    obtain rfl : (([], []), false) = t := by rw [← hT.out, seT, if_neg g]
    rw [g']
    have hF : Fr w.heap.size (w.heap.size + 1) w1 (((((w1.setCell ⟨w.heap.size, 0, none⟩ (.slice none 0 0)).setCell ⟨w.heap.size, 1, none⟩ (.slice none 0 0)).setCell ⟨w.heap.size, 2, none⟩ (.slice none 0 0)).setCell ⟨w.heap.size, 3, none⟩ (.slice none 0 0)).setCell ⟨w.heap.size, 4, none⟩ (.slice none 0 0)) := (((((Fr.refl _ _ _).setCell ⟨by simp, by simp⟩ _).setCell ⟨by simp, by simp⟩ _).setCell ⟨by simp, by simp⟩ _).setCell ⟨by simp, by simp⟩ _).setCell ⟨by simp, by simp⟩ _
    have hB' := hB.trans (hF.below (B := w.heap.size) (by omega) (by have := hB.size; omega))
    obtain ⟨x0, x1, x2, x3, x4⟩ := hX.set5 (.slice none 0 0) (.slice none 0 0) (.slice none 0 0) (.slice none 0 0) (.slice none 0 0)
    go_wp2
    refine bodyPost_ret (by simp [results, Tryz.results63, go_sem, x0, x1, x2, x3, x4]; try rfl) rfl ?_
    exact ⟨none, 0, none, 0, w.heap.size, rfl, Sl.nil_, Sl.nil_, Nat.le_refl _, hB'.size, hB'⟩
  rw [g]
  obtain rfl : ((l, l), true) = t := by rw [← hT.out, seT, if_pos g]
  clear hT g
  go_wp2_with fail
  refine (App.Clone_any Al cl l _ hl (hS.below hB).all).mono ?_
  rintro e w2 ⟨A1, c1, rfl, hO1, hb1⟩
  have hB2 := Below.on' hB hb1
  replace hX := hX.below hb1
  go_wp2_with fail
  refine (App.Clone_any Al cl l _ hl (hS.below hB2).all).mono ?_
  rintro e w3 ⟨A2, c2, rfl, hO2, hb2⟩
  replace hB := Below.on' hB2 hb2
  replace hX := hX.below hb2
  have hs1 := hb1.size
  have hs2 := hb2.size
  have hlt3 := hX.lt
  replace hfz : ∀ j, j < 5 → w3.frozen? ⟨w.heap.size, j, none⟩ = false := fun j hj => ((hb2.frozen (p := ⟨w.heap.size, j, none⟩) (by simp only; omega)).trans (hb1.frozen (p := ⟨w.heap.size, j, none⟩) hlt)).trans (hfz j hj)
  have S1 := ((hO1.sl App.len).below hb2).mono (lo' := w1.heap.size) (hi' := w2.heap.size) (Nat.le_refl _) (Nat.le_refl _) hs2
  have S2 := hO2.sl App.len
  clear b0 b1 b2 b3 b4 f0 f1 f2 f3 f4 hO1 hO2
  obtain ⟨b0, b1, b2, b3, b4⟩ := id hX
  have f0 := hfz 0 (by omega)
  have f1 := hfz 1 (by omega)
  have f2 := hfz 2 (by omega)
  have f3 := hfz 3 (by omega)
  have f4 := hfz 4 (by omega)
  have hF : Fr w.heap.size (w.heap.size + 1) w3 (((((w3.setCell ⟨w.heap.size, 0, none⟩ (.slice A1 l.length c1)).setCell ⟨w.heap.size, 1, none⟩ (.slice A2 l.length c2)).setCell ⟨w.heap.size, 2, none⟩ (.slice none 0 0)).setCell ⟨w.heap.size, 3, none⟩ (.slice none 0 0)).setCell ⟨w.heap.size, 4, none⟩ (.slice none 0 0)) := (((((Fr.refl _ _ _).setCell ⟨by simp, by simp⟩ _).setCell ⟨by simp, by simp⟩ _).setCell ⟨by simp, by simp⟩ _).setCell ⟨by simp, by simp⟩ _).setCell ⟨by simp, by simp⟩ _
  have hB' := hB.trans (hF.below (B := w.heap.size) (by omega) (by have := hB.size; omega))
  obtain ⟨x0, x1, x2, x3, x4⟩ := hX.set5 (.slice A1 l.length c1) (.slice A2 l.length c2) (.slice none 0 0) (.slice none 0 0) (.slice none 0 0)
  go_wp2
  refine bodyPost_ret (by simp [results, Tryz.results63, go_sem, x0, x1, x2, x3, x4]; try rfl) rfl ?_
  exact ⟨A1, c1, A2, c2, w2.heap.size, rfl, (S1.fr hF (by omega)).mono (by omega) (Nat.le_refl _) (by have := hF.size; omega), (S2.fr hF (by omega)).mono (Nat.le_refl _) hF.size (Nat.le_refl _), by omega, by have := hF.size; omega, hB'⟩
set_option maxRecDepth 100000 in
set_option maxHeartbeats 8000000 in
theorem StartEnds_spec (Al : Option Addr) (cl : Nat) (l : List App) (w : World) (hl : l.length ≤ 1048576) (hm : ∀ y ∈ l, y.nm.size ≤ 1048576) (hS : Apps w 0 w.heap.size Al l) :
    Calls Tryz.prog 64 #[.slice Al l.length cl] w (REB w (seT l).1.1 (seT l).1.2 (seT l).2) := by
  obtain ⟨i0, hi0, hz0, hz1, hz2⟩ := info_parts App.info
  generalize hT : seT l = t
  replace hT := Lib.hid hT
  have hX := cells5.new w (.slice none 0 0) (.slice none 0 0) (.slice none 0 0) (.slice none 0 0) (.slice none 0 0) 36 _ rfl
  have hFz : ∀ j, j < 5 → (w.alloc (.cells #[.slice none 0 0, .slice none 0 0, .slice none 0 0, .slice none 0 0, .slice none 0 0] 36)).frozen? ⟨w.heap.size, j, none⟩ = false := fun j _ => World.frozen?_alloc_at _ _ _ _ rfl
  go_enter Tryz.func64, Tryz.ntmps64
  go_wp2_with fail
  refine (apFleet_any Al cl l _ hl hm (hS.alloc _).all).mono ?_
  rintro e w1 ⟨rfl, hb⟩
  have hB : Below w.heap.size w w1 := Below.on' (by go_grown) hb
  have hlt0 := hX.lt
  replace hX := hX.below hb
  have hfz : ∀ j, j < 5 → w1.frozen? ⟨w.heap.size, j, none⟩ = false := fun j hj => (hb.frozen (p := ⟨w.heap.size, j, none⟩) hlt0).trans (hFz j hj)
  clear hb hFz hlt0
  have hlt := hX.lt
  obtain ⟨b0, b1, b2, b3, b4⟩ := id hX
  have f0 := hfz 0 (by omega)
  have f1 := hfz 1 (by omega)
  have f2 := hfz 2 (by omega)
  have f3 := hfz 3 (by omega)
  have f4 := hfz 4 (by omega)
  by_cases g : fleetB l = true
  rotate_left
  · have g' : fleetB l = false := by simpa using g
    obtain rfl : (([], []), false) = t := by rw [← hT.out, seT, if_neg g]
    rw [g']
    have hF : Fr w.heap.size (w.heap.size + 1) w1 (((((w1.setCell ⟨w.heap.size, 0, none⟩ (.slice none 0 0)).setCell ⟨w.heap.size, 1, none⟩ (.slice none 0 0)).setCell ⟨w.heap.size, 2, none⟩ (.slice none 0 0)).setCell ⟨w.heap.size, 3, none⟩ (.slice none 0 0)).setCell ⟨w.heap.size, 4, none⟩ (.slice none 0 0)) := (((((Fr.refl _ _ _).setCell ⟨by simp, by simp⟩ _).setCell ⟨by simp, by simp⟩ _).setCell ⟨by simp, by simp⟩ _).setCell ⟨by simp, by simp⟩ _).setCell ⟨by simp, by simp⟩ _
    have hB' := hB.trans (hF.below (B := w.heap.size) (by omega) (by have := hB.size; omega))
    obtain ⟨x0, x1, x2, x3, x4⟩ := hX.set5 (.slice none 0 0) (.slice none 0 0) (.slice none 0 0) (.slice none 0 0) (.slice none 0 0)
    go_wp2
    refine bodyPost_ret (by simp [results, Tryz.results64, go_sem, x0, x1, x2, x3, x4]; try rfl) rfl ?_
    exact ⟨none, 0, none, 0, w.heap.size, rfl, Sl.nil_, Sl.nil_, Nat.le_refl _, hB'.size, hB'⟩
  rw [g]
  obtain rfl : ((l, l), true) = t := by rw [← hT.out, seT, if_pos g]
  clear hT g
  go_wp2_with (first
    | (at_builtin; refine wpList_append_all _ rfl (.tmp 8) (.tmp 9) _ rfl i0 _ _ Tryz.underlying31 hi0 hz0 hz1 hz2 rfl (by omega) App.len App.one (Own.empty w1 (Nat.le_refl _)) ((hS.below hB).alloc _) rfl rfl (by unfold maxLen; first | omega | (simp; omega)) (by first | omega | (simp; omega)) (by first | exact Nat.le_refl _ | (simp; done) | omega) ?_; intro A1 c1 v2 L1 hL1 hO1 hb1; have hb1' : Below w1.heap.size w1 v2 := ((Below.refl _ _).alloc (Nat.le_refl _) _).trans hb1; have hB2 := hB.trans (hb1'.mono hB.size))
    | (at_builtin; refine wpList_append_all _ rfl (.tmp 11) (.tmp 12) _ rfl i0 _ _ Tryz.underlying31 hi0 hz0 hz1 hz2 rfl (by omega) App.len App.one (Own.empty v2 (Nat.le_refl _)) ((hS.below hB2).alloc _) rfl rfl (by unfold maxLen; first | omega | (simp; omega)) (by first | omega | (simp; omega)) (by first | exact Nat.le_refl _ | (simp; done) | omega) ?_; intro A2 c2 v3 L2 hL2 hO2 hb2; have hb2' : Below v2.heap.size v2 v3 := ((Below.refl _ _).alloc (Nat.le_refl _) _).trans hb2; have hB3 := hB2.trans (hb2'.mono hB2.size); have hs1 : w1.heap.size ≤ v2.heap.size := hb1'.size; have hs2 := hb2'.size; have hX3 := (hX.below hb1').below hb2'; have hfz3 : ∀ j, j < 5 → v3.frozen? ⟨w.heap.size, j, none⟩ = false := fun j hj => ((hb2'.frozen (p := ⟨w.heap.size, j, none⟩) (by simp only; omega)).trans (hb1'.frozen (p := ⟨w.heap.size, j, none⟩) hlt)).trans (hfz j hj); have S1 := ((hO1.sl App.len).below hb2').mono (lo' := w1.heap.size) (hi' := v2.heap.size) (Nat.le_refl _) (Nat.le_refl _) hs2; have S2 := hO2.sl App.len; clear b0 b1 b2 b3 b4 f0 f1 f2 f3 f4 hO1 hO2; obtain ⟨b0, b1, b2, b3, b4⟩ := id hX3; have f0 := hfz3 0 (by omega); have f1 := hfz3 1 (by omega); have f2 := hfz3 2 (by omega); have f3 := hfz3 3 (by omega); have f4 := hfz3 4 (by omega)))
  obtain rfl : L1 = l := hL1.out
  obtain rfl : L2 = L1 := hL2.out
  replace hB := hB3
  replace hX := hX3
  have hF : Fr w.heap.size (w.heap.size + 1) v3 (((((v3.setCell ⟨w.heap.size, 0, none⟩ (.slice A1 L2.length c1)).setCell ⟨w.heap.size, 1, none⟩ (.slice A2 L2.length c2)).setCell ⟨w.heap.size, 2, none⟩ (.slice none 0 0)).setCell ⟨w.heap.size, 3, none⟩ (.slice none 0 0)).setCell ⟨w.heap.size, 4, none⟩ (.slice none 0 0)) := (((((Fr.refl _ _ _).setCell ⟨by simp, by simp⟩ _).setCell ⟨by simp, by simp⟩ _).setCell ⟨by simp, by simp⟩ _).setCell ⟨by simp, by simp⟩ _).setCell ⟨by simp, by simp⟩ _
  have hB' := hB.trans (hF.below (B := w.heap.size) (by omega) (by have := hB.size; omega))
  obtain ⟨x0, x1, x2, x3, x4⟩ := hX.set5 (.slice A1 L2.length c1) (.slice A2 L2.length c2) (.slice none 0 0) (.slice none 0 0) (.slice none 0 0)
  refine bodyPost_ret (by simp [results, Tryz.results64, go_sem, x0, x1, x2, x3, x4]; try rfl) rfl ?_
  exact ⟨A1, c1, A2, c2, v2.heap.size, rfl, (S1.fr hF (by omega)).mono (by omega) (Nat.le_refl _) (by have := hF.size; omega), (S2.fr hF (by omega)).mono (Nat.le_refl _) hF.size (Nat.le_refl _), by omega, by have := hF.size; omega, hB'⟩
end Go.Proofs.YtianabfehonliaaGreatDoor
namespace Go.Proofs.YtianabfehonliaaGreatDoor
open Go.ChangeShapes Go.WideShapes Go.ChangeAt Go.RowKit Go.Joins

section
variable {H : Type} {enc : TypeId × Value → H} {W : World}
set_option maxRecDepth 100000 in
theorem Ends.rd (fuel : Nat) (cs : List Value) (y : DataW H × List MemPlace) (hl : cs.length = 5) (ht : DataW.trod enc Tryz.prog W 0 (fun _ => true) true fuel 27 cs = some y) (hlt : ∀ x ∈ y.2, x.block < W.heap.size) (hnf : W.noneFrozen y.2) :
    ∃ (Af : Option Addr) (cf : Nat) (f : List App) (An : Option Addr) (cn : Nat) (n : List App) (As : Option Addr) (cs' : Nat) (s : List Msg) (Ar : Option Addr) (cr : Nat) (r : List Msg) (Ah : Option Addr) (ch : Nat) (h : List Msg), cs = [.slice Af f.length cf, .slice An n.length cn, .slice As s.length cs', .slice Ar r.length cr, .slice Ah h.length ch] ∧
      (f.length ≤ maxLen ∧ (∀ x ∈ f, x.nm.size ≤ maxLen) ∧ Apps W 0 W.heap.size Af f) ∧ (n.length ≤ maxLen ∧ (∀ x ∈ n, x.nm.size ≤ maxLen) ∧ Apps W 0 W.heap.size An n) ∧
      (s.length ≤ maxLen ∧ (∀ x ∈ s, x.f.size ≤ maxLen ∧ x.b.size ≤ maxLen) ∧ Msgs W 0 W.heap.size As s) ∧ (r.length ≤ maxLen ∧ (∀ x ∈ r, x.f.size ≤ maxLen ∧ x.b.size ≤ maxLen) ∧ Msgs W 0 W.heap.size Ar r) ∧ (h.length ≤ maxLen ∧ (∀ x ∈ h, x.f.size ≤ maxLen ∧ x.b.size ≤ maxLen) ∧ Msgs W 0 W.heap.size Ah h) := by
  match cs, hl with
  | [c0, c1, c2, c3, c4], _ =>
    obtain ⟨xs, m, _, hx, _, hlen, hg⟩ := DataW.trod_struct Tryz.underlying27 ht
    match xs, hlen with
    | [y0, y1, y2], _ =>
      subst hx
      have g0 : DataW.trod enc Tryz.prog W 0 (fun _ => true) true m 22 (List.take (Tryz.prog.cellsOf 22) (List.drop 0 [c0, c1, c2, c3, c4])) = some y0 := hg 0 _ rfl
      rw [show Tryz.prog.cellsOf 22 = 1 from by kernel_rfl] at g0
      have g1 : DataW.trod enc Tryz.prog W 0 (fun _ => true) true m 22 (List.take (Tryz.prog.cellsOf 22) (List.drop 1 [c0, c1, c2, c3, c4])) = some y1 := hg 1 _ rfl
      rw [show Tryz.prog.cellsOf 22 = 1 from by kernel_rfl] at g1
      have g2 : DataW.trod enc Tryz.prog W 0 (fun _ => true) true m 25 (List.take (Tryz.prog.cellsOf 25) (List.drop 2 [c0, c1, c2, c3, c4])) = some y2 := hg 2 _ rfl
      rw [show Tryz.prog.cellsOf 25 = 3 from by kernel_rfl] at g2
      obtain ⟨Af, cf, f, rfl, hlf, hmf, hSf⟩ := open_slc (d := y0.1) (p := y0.2) (fun x => x.nm.size ≤ maxLen) Tryz.underlying22 (by kernel_rfl) (by omega) App.len (fun n cs' y hl h => App.rd n cs' y hl h) g0 (fun x hx => hlt x (by simp [hx])) (fun b o hx => hnf b o (by simp [hx]))
      obtain ⟨An, cn, n, rfl, hln, hmn, hSn⟩ := open_slc (d := y1.1) (p := y1.2) (fun x => x.nm.size ≤ maxLen) Tryz.underlying22 (by kernel_rfl) (by omega) App.len (fun n cs' y hl h => App.rd n cs' y hl h) g1 (fun x hx => hlt x (by simp [hx])) (fun b o hx => hnf b o (by simp [hx]))
      obtain ⟨As, cs, s, Ar, cr, r, Ah, ch, h, he, h1, h2, h3⟩ := Chan.rd m [c2, c3, c4] y2 rfl g2 (fun x hx => hlt x (by simp [hx])) (fun b o hx => hnf b o (by simp [hx]))
      simp only [List.cons.injEq, and_true] at he
      obtain ⟨rfl, rfl, rfl⟩ := he
      exact ⟨Af, cf, f, An, cn, n, As, cs, s, Ar, cr, r, Ah, ch, h, rfl, ⟨hlf, hmf, hSf⟩, ⟨hln, hmn, hSn⟩, h1, h2, h3⟩
set_option maxRecDepth 100000 in
theorem Ends.opened {r : Reach} {b0 : Nat} {v : Value} {d : DataW H} {p : List MemPlace} (hv : Value.okWide Tryz.prog W r b0 27 v) (h : DataW.Trod enc Tryz.prog W 0 (fun _ => true) true 27 v d p) (hlt : ∀ x ∈ p, x.block < W.heap.size) (hnf : W.noneFrozen p) :
    ∃ (Af : Option Addr) (cf : Nat) (f : List App) (An : Option Addr) (cn : Nat) (n : List App) (As : Option Addr) (cs : Nat) (s : List Msg) (Ar : Option Addr) (cr : Nat) (r : List Msg) (Ah : Option Addr) (ch : Nat) (h : List Msg), v = .agg #[.slice Af f.length cf, .slice An n.length cn, .slice As s.length cs, .slice Ar r.length cr, .slice Ah h.length ch] ∧
      (f.length ≤ maxLen ∧ (∀ x ∈ f, x.nm.size ≤ maxLen) ∧ Apps W 0 W.heap.size Af f) ∧ (n.length ≤ maxLen ∧ (∀ x ∈ n, x.nm.size ≤ maxLen) ∧ Apps W 0 W.heap.size An n) ∧
      (s.length ≤ maxLen ∧ (∀ x ∈ s, x.f.size ≤ maxLen ∧ x.b.size ≤ maxLen) ∧ Msgs W 0 W.heap.size As s) ∧ (r.length ≤ maxLen ∧ (∀ x ∈ r, x.f.size ≤ maxLen ∧ x.b.size ≤ maxLen) ∧ Msgs W 0 W.heap.size Ar r) ∧ (h.length ≤ maxLen ∧ (∀ x ∈ h, x.f.size ≤ maxLen ∧ x.b.size ≤ maxLen) ∧ Msgs W 0 W.heap.size Ah h) := by
  obtain ⟨vs, rfl, hsz⟩ := okWide_struct Tryz.underlying27 hv
  obtain ⟨fuel, hf⟩ := h
  have hC : Tryz.prog.cellsOf 27 = 5 := by kernel_rfl
  obtain ⟨Af, cf, f, An, cn, n, As, cs, s, Ar, cr, r, Ah, ch, h, he, h1, h2, h3⟩ := Ends.rd fuel vs.toList _ (by rw [Array.length_toList]; exact hsz.trans hC) hf hlt hnf
  exact ⟨Af, cf, f, An, cn, n, As, cs, s, Ar, cr, r, Ah, ch, h, by rw [← he], h1, h2, h3⟩
end
end Go.Proofs.YtianabfehonliaaGreatDoor
namespace Go.Proofs.YtianabfehonliaaGreatDoor
open Go.RowKit

def okA (l : List App) : Prop := l.length ≤ 1048576 ∧ ∀ x ∈ l, x.nm.size ≤ 1048576
theorem BN.off {b : Nat} {vs : List Value} {X : World} (a : BN b vs X) {p : Addr} (hp : p.block ≠ b) (v : Value) : BN b vs (X.setCell p v) := fun j u e => ⟨unset (a j u e).1 hp, (World.frozen?_setCell ..).trans (a j u e).2⟩
theorem BN.put {b : Nat} {vs : List Value} {X : World} (a : BN b vs X) {i : Nat} {u : Value} (hi : vs[i]? = some u) (v : Value) : BN b (vs.set i v) (X.setCell ⟨b, i, none⟩ v) := fun j z e => by
  refine ⟨?_, (World.frozen?_setCell ..).trans ?_⟩
  · by_cases q : i = j
    · subst q
      rw [List.getElem?_set_self (List.getElem?_eq_some_iff.1 hi).1] at e
      obtain rfl := Option.some.inj e
      exact World.cell?_setCell_same _ _ _ (a i u hi).1
    · rw [List.getElem?_set_ne q] at e
      exact (World.cell?_setCell_other _ _ _ _ (fun e => q (by injection e))).trans (a j z e).1
  · by_cases q : i = j
    · subst q; exact (a i u hi).2
    · rw [List.getElem?_set_ne q] at e; exact (a j z e).2
set_option maxHeartbeats 2000000 in
theorem szEnds_any (Af : Option Addr) (cf : Nat) (f : List App) (An : Option Addr) (cn : Nat) (n : List App) (As : Option Addr) (cs : Nat) (s : List Msg) (Ar : Option Addr) (cr : Nat) (r : List Msg) (Ah : Option Addr) (ch : Nat) (h : List Msg) (left : Int) (w : World) (hlf : f.length ≤ maxLen) (hmf : ∀ y ∈ f, y.nm.size ≤ maxLen) (hSf : Apps w 0 w.heap.size Af f) (hln : n.length ≤ maxLen) (hmn : ∀ y ∈ n, y.nm.size ≤ maxLen) (hSn : Apps w 0 w.heap.size An n) (hls : s.length ≤ maxLen) (hms : ∀ y ∈ s, y.f.size ≤ maxLen ∧ y.b.size ≤ maxLen) (hSs : Msgs w 0 w.heap.size As s) (hlr : r.length ≤ maxLen) (hmr : ∀ y ∈ r, y.f.size ≤ maxLen ∧ y.b.size ≤ maxLen) (hSr : Msgs w 0 w.heap.size Ar r) (hlh : h.length ≤ maxLen) (hmh : ∀ y ∈ h, y.f.size ≤ maxLen ∧ y.b.size ≤ maxLen) (hSh : Msgs w 0 w.heap.size Ah h) (h0 : 0 ≤ left) (h1 : left ≤ 1048576) :
    Calls Tryz.prog 13 #[.agg #[.slice Af f.length cf, .slice An n.length cn, .slice As s.length cs, .slice Ar r.length cr, .slice Ah h.length ch], .int .i64 left] w fun e w' => ∃ q : Int, e = .returned (.int .i64 q) ∧ q ≤ left ∧ (0 ≤ q → okA f ∧ okA n ∧ okM s ∧ okM r ∧ okM h) ∧ Below w.heap.size w w' := by
  have hX := cells5.new w (.slice Af f.length cf) (.slice An n.length cn) (.slice As s.length cs) (.slice Ar r.length cr) (.slice Ah h.length ch) 27 _ rfl
  have hB : Below w.heap.size w (w.alloc (.cells #[.slice Af f.length cf, .slice An n.length cn, .slice As s.length cs, .slice Ar r.length cr, .slice Ah h.length ch] 27)) := by go_grown
  obtain ⟨b0, b1, b2, b3, b4⟩ := id hX
  go_enter Tryz.func13, Tryz.ntmps13
  go_wp2_with fail
  refine (szApplianceS_any Af cf f left _ hlf hmf (hSf.below hB).all (by omega) (by omega)).mono ?_
  rintro e w1 ⟨qf, rfl, hqf, hrf, hb⟩
  replace hX := hX.below hb
  replace hB := Below.on' hB hb
  clear b0 b1 b2 b3 b4 hb
  obtain ⟨b0, b1, b2, b3, b4⟩ := id hX
  have k1 := hX.lt
  by_cases nf : qf < 0
  · go_wp2
    go_ret
    exact ⟨-1, rfl, by omega, by omega, hB⟩
  go_wp2_with fail
  refine (szApplianceS_any An cn n qf _ hln hmn (hSn.below hB).all (by omega) (by omega)).mono ?_
  rintro e w2 ⟨qn, rfl, hqn, hrn, hb⟩
  replace hX := hX.below hb
  replace hB := Below.on' hB hb
  clear b0 b1 b2 b3 b4 hb k1
  obtain ⟨b0, b1, b2, b3, b4⟩ := id hX
  have k1 := hX.lt
  by_cases nn : qn < 0
  · go_wp2
    go_ret
    exact ⟨-1, rfl, by omega, by omega, hB⟩
  go_wp2_with fail
  refine (szChannel_any As cs s Ar cr r Ah ch h qn _ hls hms (hSs.below hB).all hlr hmr (hSr.below hB).all hlh hmh (hSh.below hB).all (by omega) (by omega)).mono ?_
  rintro e w3 ⟨qc, rfl, hqc, hrc, hb⟩
  replace hX := hX.below hb
  replace hB := Below.on' hB hb
  clear b0 b1 b2 b3 b4 hb k1
  obtain ⟨b0, b1, b2, b3, b4⟩ := id hX
  have k1 := hX.lt
  by_cases nc : qc < 0
  · go_wp2
    go_ret
    exact ⟨-1, rfl, by omega, by omega, hB⟩
  go_wp2
  go_ret
  exact ⟨qc, rfl, by omega, fun _ => ⟨hrf (by omega), hrn (by omega), hrc (by omega)⟩, hB⟩
set_option maxHeartbeats 8000000 in
theorem toEnds_any (Af : Option Addr) (cf : Nat) (f : List App) (An : Option Addr) (cn : Nat) (n : List App) (As : Option Addr) (cs : Nat) (s : List Msg) (Ar : Option Addr) (cr : Nat) (r : List Msg) (Ah : Option Addr) (ch : Nat) (h : List Msg) (w : World) (hlf : f.length ≤ 1048576) (hSf : Apps w 0 w.heap.size Af f) (hln : n.length ≤ 1048576) (hSn : Apps w 0 w.heap.size An n) (hls : s.length ≤ 1048576) (hSs : Msgs w 0 w.heap.size As s) (hlr : r.length ≤ 1048576) (hSr : Msgs w 0 w.heap.size Ar r) (hlh : h.length ≤ 1048576) (hSh : Msgs w 0 w.heap.size Ah h) :
    Calls Tryz.prog 15 #[.agg #[.slice Af f.length cf, .slice An n.length cn, .slice As s.length cs, .slice Ar r.length cr, .slice Ah h.length ch]] w fun e w' => ∃ g1 g2 g3 g4 g5 m1 m2 m3 m4, e = .returned (.agg #[.slice (some ⟨g1, 0, none⟩) f.length f.length, .slice (some ⟨g2, 0, none⟩) n.length n.length, .slice (some ⟨g3, 0, none⟩) s.length s.length, .slice (some ⟨g4, 0, none⟩) r.length r.length, .slice (some ⟨g5, 0, none⟩) h.length h.length]) ∧ (w.heap.size ≤ m1 ∧ m1 ≤ m2 ∧ m2 ≤ m3 ∧ m3 ≤ m4 ∧ m4 ≤ w'.heap.size) ∧ Apps w' w.heap.size m1 (some ⟨g1, 0, none⟩) f ∧ Apps w' m1 m2 (some ⟨g2, 0, none⟩) n ∧ Msgs w' m2 m3 (some ⟨g3, 0, none⟩) s ∧ Msgs w' m3 m4 (some ⟨g4, 0, none⟩) r ∧ Msgs w' m4 w'.heap.size (some ⟨g5, 0, none⟩) h ∧ Below w.heap.size w w' := by
  have X1 := ((BN.new w #[.slice Af f.length cf, .slice An n.length cn, .slice As s.length cs, .slice Ar r.length cr, .slice Ah h.length ch] 27 _ rfl).upto (B := w.heap.size + 1) (Nat.lt_succ_self _) ((Below.refl _ _).alloc (by simp) (.cells #[.slice none 0 0, .slice none 0 0, .slice none 0 0, .slice none 0 0, .slice none 0 0] 36))).upto (B := w.heap.size + 1) (Nat.lt_succ_self _) ((Below.refl _ _).alloc (by simp) (.cells #[.slice none 0 0, .slice none 0 0, .slice none 0 0, .slice none 0 0, .slice none 0 0] 36))
  have X2 := (BN.new (w.alloc (.cells #[.slice Af f.length cf, .slice An n.length cn, .slice As s.length cs, .slice Ar r.length cr, .slice Ah h.length ch] 27)) #[.slice none 0 0, .slice none 0 0, .slice none 0 0, .slice none 0 0, .slice none 0 0] 36 (w.heap.size + 1) (by simp)).upto (B := w.heap.size + 2) (Nat.lt_succ_self _) ((Below.refl _ _).alloc (by simp) (.cells #[.slice none 0 0, .slice none 0 0, .slice none 0 0, .slice none 0 0, .slice none 0 0] 36))
  have X3 := BN.new ((w.alloc (.cells #[.slice Af f.length cf, .slice An n.length cn, .slice As s.length cs, .slice Ar r.length cr, .slice Ah h.length ch] 27)).alloc (.cells #[.slice none 0 0, .slice none 0 0, .slice none 0 0, .slice none 0 0, .slice none 0 0] 36)) #[.slice none 0 0, .slice none 0 0, .slice none 0 0, .slice none 0 0, .slice none 0 0] 36 (w.heap.size + 2) (by simp)
  have hB : Below w.heap.size w (((w.alloc (.cells #[.slice Af f.length cf, .slice An n.length cn, .slice As s.length cs, .slice Ar r.length cr, .slice Ah h.length ch] 27)).alloc (.cells #[.slice none 0 0, .slice none 0 0, .slice none 0 0, .slice none 0 0, .slice none 0 0] 36)).alloc (.cells #[.slice none 0 0, .slice none 0 0, .slice none 0 0, .slice none 0 0, .slice none 0 0] 36)) := by go_grown
  have b0 := (X1 0 _ rfl).1
  go_enter Tryz.func15, Tryz.ntmps15
  go_wp2_with fail
  refine (toApplianceS_any Af cf f _ hlf (hSf.below hB).all).mono ?_
  rintro e w1 ⟨g1, rfl, hU, hb⟩
  replace X1 := X1.upto (X1.lt (by simp)) hb
  replace X2 := X2.upto (X2.lt (by simp)) hb
  replace X3 := X3.upto (X3.lt (by simp)) hb
  have zz1 : w.heap.size + 3 ≤ w1.heap.size := by have q := hb.size; simp at q; omega
  have T1 := hU.mono (lo' := w.heap.size + 3) (hi' := w1.heap.size) (by simp) (Nat.le_refl _) (Nat.le_refl _)
  replace hB := Below.on' hB hb
  clear hb hU
  have z1 := X3.lt (by simp)
  have hF : Fr (w.heap.size + 2) (w.heap.size + 2 + 1) w1 (w1.setCell ⟨w.heap.size + 2, 0, none⟩ (.slice (some ⟨g1, 0, none⟩) f.length f.length)) := (Fr.refl _ _ _).setCell ⟨by simp, by simp⟩ _
  replace T1 := T1.fr hF (by omega)
  have hBs : Below w.heap.size w (w1.setCell ⟨w.heap.size + 2, 0, none⟩ (.slice (some ⟨g1, 0, none⟩) f.length f.length)) := hB.trans (hF.below (by omega) (by omega))
  have Y1 := X1.off (p := ⟨w.heap.size + 2, 0, none⟩) (by simp) (.slice (some ⟨g1, 0, none⟩) f.length f.length)
  have Y2 := X2.off (p := ⟨w.heap.size + 2, 0, none⟩) (by simp) (.slice (some ⟨g1, 0, none⟩) f.length f.length)
  have Y3 := X3.put (i := 0) rfl (.slice (some ⟨g1, 0, none⟩) f.length f.length)
  have y1 := (Y1 1 _ rfl).1
  obtain ⟨x3c0, x3f0⟩ := X3 0 _ rfl
  obtain ⟨x3c1, x3f1⟩ := X3 1 _ rfl
  obtain ⟨x3c2, x3f2⟩ := X3 2 _ rfl
  obtain ⟨x3c3, x3f3⟩ := X3 3 _ rfl
  obtain ⟨x3c4, x3f4⟩ := X3 4 _ rfl
  clear hF
  go_wp2_with fail
  clear b0 y1 X1 X2 X3 hB x3c0 x3f0 x3c1 x3f1 x3c2 x3f2 x3c3 x3f3 x3c4 x3f4
  have X1 := Y1
  have X2 := Y2
  have X3 := Y3
  have hB := hBs
  clear Y1 Y2 Y3 hBs
  refine (toApplianceS_any An cn n _ hln (hSn.below hB).all).mono ?_
  rintro e w2 ⟨g2, rfl, hU, hb⟩
  replace X1 := X1.upto (X1.lt (by simp)) hb
  replace X2 := X2.upto (X2.lt (by simp)) hb
  replace X3 := X3.upto (X3.lt (by simp)) hb
  have zz2 : w1.heap.size ≤ w2.heap.size := by have q := hb.size; simp [World.setCell] at q; omega
  have T2 := hU.mono (lo' := w1.heap.size) (hi' := w2.heap.size) (by simp [World.setCell]) (Nat.le_refl _) (Nat.le_refl _)
  replace T1 := T1.below hb
  replace hB := Below.on' hB hb
  clear hb hU
  have z2 := X3.lt (by simp)
  have hF : Fr (w.heap.size + 2) (w.heap.size + 2 + 1) w2 (w2.setCell ⟨w.heap.size + 2, 1, none⟩ (.slice (some ⟨g2, 0, none⟩) n.length n.length)) := (Fr.refl _ _ _).setCell ⟨by simp, by simp⟩ _
  replace T1 := T1.fr hF (by omega)
  replace T2 := T2.fr hF (by omega)
  have hBs : Below w.heap.size w (w2.setCell ⟨w.heap.size + 2, 1, none⟩ (.slice (some ⟨g2, 0, none⟩) n.length n.length)) := hB.trans (hF.below (by omega) (by omega))
  have Y1 := X1.off (p := ⟨w.heap.size + 2, 1, none⟩) (by simp) (.slice (some ⟨g2, 0, none⟩) n.length n.length)
  have Y2 := X2.off (p := ⟨w.heap.size + 2, 1, none⟩) (by simp) (.slice (some ⟨g2, 0, none⟩) n.length n.length)
  have Y3 := X3.put (i := 1) rfl (.slice (some ⟨g2, 0, none⟩) n.length n.length)
  have y1 := (Y1 2 _ rfl).1
  have y2 := (Y1 3 _ rfl).1
  have y3 := (Y1 4 _ rfl).1
  obtain ⟨x3c0, x3f0⟩ := X3 0 _ rfl
  obtain ⟨x3c1, x3f1⟩ := X3 1 _ rfl
  obtain ⟨x3c2, x3f2⟩ := X3 2 _ rfl
  obtain ⟨x3c3, x3f3⟩ := X3 3 _ rfl
  obtain ⟨x3c4, x3f4⟩ := X3 4 _ rfl
  clear hF
  go_wp2_with fail
  clear y1 y2 y3 X1 X2 X3 hB x3c0 x3f0 x3c1 x3f1 x3c2 x3f2 x3c3 x3f3 x3c4 x3f4
  have X1 := Y1
  have X2 := Y2
  have X3 := Y3
  have hB := hBs
  clear Y1 Y2 Y3 hBs
  refine (toChannel_any As cs s Ar cr r Ah ch h _ hls (hSs.below hB).all hlr (hSr.below hB).all hlh (hSh.below hB).all).mono ?_
  rintro e w3 ⟨g3, g4, g5, m1, m2, rfl, hz1, hz2, hz3, hU3, hU4, hU5, hb⟩
  replace X1 := X1.upto (X1.lt (by simp)) hb
  replace X2 := X2.upto (X2.lt (by simp)) hb
  replace X3 := X3.upto (X3.lt (by simp)) hb
  have zz3 : w2.heap.size ≤ w3.heap.size := by have q := hb.size; simpa [World.setCell] using q
  have hz0 : w2.heap.size ≤ m1 := by have q := hz1; simpa [World.setCell] using q
  have T3 := hU3.mono (lo' := w2.heap.size) (hi' := m1) (by simp [World.setCell]) (Nat.le_refl _) (by omega)
  have T4 := hU4
  have T5 := hU5
  replace T1 := T1.below hb
  replace T2 := T2.below hb
  replace hB := Below.on' hB hb
  clear hb hU3 hU4 hU5 hz1
  have hF : Fr (w.heap.size + 1) (w.heap.size + 2 + 1) w3 ((((((((w3.setCell ⟨w.heap.size + 2, 2, none⟩ (.slice (some ⟨g3, 0, none⟩) s.length s.length)).setCell ⟨w.heap.size + 2, 3, none⟩ (.slice (some ⟨g4, 0, none⟩) r.length r.length)).setCell ⟨w.heap.size + 2, 4, none⟩ (.slice (some ⟨g5, 0, none⟩) h.length h.length)).setCell ⟨w.heap.size + 1, 0, none⟩ (.slice (some ⟨g1, 0, none⟩) f.length f.length)).setCell ⟨w.heap.size + 1, 1, none⟩ (.slice (some ⟨g2, 0, none⟩) n.length n.length)).setCell ⟨w.heap.size + 1, 2, none⟩ (.slice (some ⟨g3, 0, none⟩) s.length s.length)).setCell ⟨w.heap.size + 1, 3, none⟩ (.slice (some ⟨g4, 0, none⟩) r.length r.length)).setCell ⟨w.heap.size + 1, 4, none⟩ (.slice (some ⟨g5, 0, none⟩) h.length h.length)) := (((((((((Fr.refl _ _ _).setCell ⟨by simp, by simp⟩ _).setCell ⟨by simp, by simp⟩ _).setCell ⟨by simp, by simp⟩ _).setCell ⟨by simp, by simp⟩ _).setCell ⟨by simp, by simp⟩ _).setCell ⟨by simp, by simp⟩ _).setCell ⟨by simp, by simp⟩ _).setCell ⟨by simp, by simp⟩ _)
  replace T1 := T1.fr hF (by omega)
  replace T2 := T2.fr hF (by omega)
  replace T3 := T3.fr hF (by omega)
  replace T4 := T4.fr hF (by omega)
  replace T5 := T5.fr hF (by omega)
  have hB4 := hB.trans (hF.below (by omega) (by have := hB.size; omega))
  have Y30 := X3.put (i := 2) rfl (.slice (some ⟨g3, 0, none⟩) s.length s.length)
  have Y20 := X2.off (p := ⟨w.heap.size + 2, 2, none⟩) (by simp) (.slice (some ⟨g3, 0, none⟩) s.length s.length)
  have Y31 := Y30.put (i := 3) rfl (.slice (some ⟨g4, 0, none⟩) r.length r.length)
  have Y21 := Y20.off (p := ⟨w.heap.size + 2, 3, none⟩) (by simp) (.slice (some ⟨g4, 0, none⟩) r.length r.length)
  have Y32 := Y31.put (i := 4) rfl (.slice (some ⟨g5, 0, none⟩) h.length h.length)
  have Y22 := Y21.off (p := ⟨w.heap.size + 2, 4, none⟩) (by simp) (.slice (some ⟨g5, 0, none⟩) h.length h.length)
  have Z0 := Y22.put (i := 0) rfl (.slice (some ⟨g1, 0, none⟩) f.length f.length)
  have Z1 := Z0.put (i := 1) rfl (.slice (some ⟨g2, 0, none⟩) n.length n.length)
  have Z2 := Z1.put (i := 2) rfl (.slice (some ⟨g3, 0, none⟩) s.length s.length)
  have Z3 := Z2.put (i := 3) rfl (.slice (some ⟨g4, 0, none⟩) r.length r.length)
  have Z4 := Z3.put (i := 4) rfl (.slice (some ⟨g5, 0, none⟩) h.length h.length)
  obtain ⟨x3c0, x3f0⟩ := X3 0 _ rfl
  obtain ⟨x3c1, x3f1⟩ := X3 1 _ rfl
  obtain ⟨x3c2, x3f2⟩ := X3 2 _ rfl
  obtain ⟨x3c3, x3f3⟩ := X3 3 _ rfl
  obtain ⟨x3c4, x3f4⟩ := X3 4 _ rfl
  obtain ⟨y32c0, y32f0⟩ := Y32 0 _ rfl
  obtain ⟨y32c1, y32f1⟩ := Y32 1 _ rfl
  obtain ⟨y32c2, y32f2⟩ := Y32 2 _ rfl
  obtain ⟨y32c3, y32f3⟩ := Y32 3 _ rfl
  obtain ⟨y32c4, y32f4⟩ := Y32 4 _ rfl
  obtain ⟨y22c0, y22f0⟩ := Y22 0 _ rfl
  obtain ⟨y22c1, y22f1⟩ := Y22 1 _ rfl
  obtain ⟨y22c2, y22f2⟩ := Y22 2 _ rfl
  obtain ⟨y22c3, y22f3⟩ := Y22 3 _ rfl
  obtain ⟨y22c4, y22f4⟩ := Y22 4 _ rfl
  obtain ⟨z4c0, z4f0⟩ := Z4 0 _ rfl
  obtain ⟨z4c1, z4f1⟩ := Z4 1 _ rfl
  obtain ⟨z4c2, z4f2⟩ := Z4 2 _ rfl
  obtain ⟨z4c3, z4f3⟩ := Z4 3 _ rfl
  obtain ⟨z4c4, z4f4⟩ := Z4 4 _ rfl
  have hfs := hF.size
  clear X1 X2 X3 Y30 Y31 Y32 Y20 Y21 Y22 Z0 Z1 Z2 Z3 Z4 hF
  go_wp2
  refine bodyPost_ret (by simp [results, Tryz.results15, go_sem, z4c0, z4c1, z4c2, z4c3, z4c4]; try rfl) rfl ?_
  exact ⟨g1, g2, g3, g4, g5, w1.heap.size, w2.heap.size, m1, m2, rfl, ⟨by omega, by omega, by omega, by omega, Nat.le_trans hz3 hfs⟩, T1.mono (by omega) (Nat.le_refl _) (Nat.le_trans (by omega) hfs), T2, T3, T4, T5.mono (Nat.le_refl _) hfs (Nat.le_refl _), hB4⟩
end Go.Proofs.YtianabfehonliaaGreatDoor

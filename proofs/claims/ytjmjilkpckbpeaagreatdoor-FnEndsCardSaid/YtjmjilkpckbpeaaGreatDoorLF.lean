/- Several texts of this seat, one behind the other. Fleets, as the program and the reference test them. Condition: at most 2^20 appliances, names of at most 2^20. Ends in memory, and the law's own helpers over them. Conditions: at most 2^20 in each list. Ends that come in as arguments, opened; sized; copied. Condition of the copy: at most 2^20 in each list. Ends sized and copied. Condition of the copy: at most 2^20 in each list. -/
import Derived.Test.YtjmjilkpckbpeaaGreatDoorLN
import Derived.Test.YtjmjilkpckbpeaaGreatDoorLB
import Derived.Test.YtjmjilkpckbpeaaGreatDoorLC
import Derived.BigQuiet
import Derived.Laws.Cover1
namespace Go.Proofs.YtjmjilkpckbpeaaGreatDoor
open Go.RowKit

def fltAt (l : List App) (i : Nat) : Bool := match l[i]? with
  | some a => appB a && (match i with | 0 => true | j + 1 => (match l[j]? with | some b => Op.bytesLess b.nm.toList a.nm.toList | none => false))
  | none => false
def fleetB (l : List App) : Bool := (List.range l.length).all (fltAt l) && decide (l.length ≤ 12)
theorem fltAt_0 {l : List App} {a : App} (hx : l[0]? = some a) : fltAt l 0 = appB a := by simp [fltAt, hx]
theorem fltAt_s {l : List App} {q : Nat} {a b : App} (hx : l[q + 1]? = some a) (hy : l[q]? = some b) : fltAt l (q + 1) = (appB a && Op.bytesLess b.nm.toList a.nm.toList) := by simp [fltAt, hx, hy]
set_option maxRecDepth 100000 in
set_option maxHeartbeats 8000000 in
theorem isFleet_any (Al : Option Addr) (cl : Nat) (l : List App) (w : World) (hl : l.length ≤ 1048576) (hm : ∀ y ∈ l, y.nm.size ≤ 1048576) (hS : Apps w 0 w.heap.size Al l) :
    Calls Tryz.prog 117 #[.slice Al l.length cl] w (RV w (.bool (fleetB l))) := by
  go_enter Tryz.func117, Tryz.ntmps117
  go_wp2_with fail
  go_loopw [7] (fun i wr => ∃ k : Nat, k ≤ l.length ∧ i = .int .i64 k ∧ Hid (∀ i, i < k → fltAt l i = true) ∧ Below w.heap.size w wr) (fun i _ => l.length - (intOf i).toNat)
  case atStart => exact ⟨0, Nat.zero_le _, rfl, Lib.hid (fun i hi => absurd hi (Nat.not_lt_zero i)), Below.refl _ _⟩
  case round =>
    obtain ⟨k, hk, rfl, HX, hB⟩ := hrel
    have hz := hB.size
    by_cases hlt : k < l.length
    · obtain ⟨a, hx, hxM⟩ := get_lt hlt
      have hn := hm _ hxM
      have hSr := (hS.below hB)
      obtain ⟨b, off, rfl, _, kb, _, hf⟩ := hSr.at_ hx
      have c0 : wr.cell? ⟨b, off + k * 5, none⟩ = some (.string a.nm) := (hf 0 _ rfl).1
      have c1 : wr.cell? ⟨b, off + k * 5 + 1, none⟩ = some (.int .i64 a.kd) := (hf 1 _ rfl).1
      have c2 : wr.cell? ⟨b, off + k * 5 + 2, none⟩ = some (.int .i64 a.nd) := (hf 2 _ rfl).1
      have c3 : wr.cell? ⟨b, off + k * 5 + 3, none⟩ = some (.int .i64 a.cw) := (hf 3 _ rfl).1
      have c4 : wr.cell? ⟨b, off + k * 5 + 4, none⟩ = some (.int .i64 a.st) := (hf 4 _ rfl).1
      have hcls0 : ∀ W, Below (wr.alloc (.cells #[.string a.nm, .int .i64 a.kd, .int .i64 a.nd, .int .i64 a.cw, .int .i64 a.st] 73)).heap.size (wr.alloc (.cells #[.string a.nm, .int .i64 a.kd, .int .i64 a.nd, .int .i64 a.cw, .int .i64 a.st] 73)) W → W.cell? ⟨wr.heap.size, 0, none⟩ = some (.string a.nm) ∧ W.cell? ⟨wr.heap.size, 1, none⟩ = some (.int .i64 a.kd) ∧ W.cell? ⟨wr.heap.size, 2, none⟩ = some (.int .i64 a.nd) ∧ W.cell? ⟨wr.heap.size, 3, none⟩ = some (.int .i64 a.cw) ∧ W.cell? ⟨wr.heap.size, 4, none⟩ = some (.int .i64 a.st) := fun W hb =>
        have H := fun t u hu => keep hb (new_cells (E := App.cells) wr 73 a _ rfl t u hu)
        ⟨H 0 _ rfl, H 1 _ rfl, H 2 _ rfl, H 3 _ rfl, H 4 _ rfl⟩
      have HM : ∀ W, Calls Tryz.prog 148 #[.agg #[.string a.nm, .int .i64 a.kd, .int .i64 a.nd, .int .i64 a.cw, .int .i64 a.st]] W (RV W (.bool (appB a))) := fun W => isAppliance_any a W hn
      have hBV : Below w.heap.size w (wr.alloc (.cells #[.string a.nm, .int .i64 a.kd, .int .i64 a.nd, .int .i64 a.cw, .int .i64 a.st] 73)) := by go_grown
      clear hf hxM
      cases k with
      | zero =>
        have HE := Lib.hid (fltAt_0 hx)
        clear hx hSr
        have hcls := hcls0
        clear hcls0
        simp only [Nat.zero_mul, Nat.add_zero] at c0 c1 c2 c3 c4
        go_wp2_with fail
        generalize wr.alloc (.cells #[.string a.nm, .int .i64 a.kd, .int .i64 a.nd, .int .i64 a.cw, .int .i64 a.st] 73) = V at hcls hBV ⊢
        clear c0 c1 c2 c3 c4
        cases g1 : appB a with
        | false =>
          rw [g1] at HM
          have HF : Hid (fleetB l = false) := Lib.hid (by rw [fleetB, upto_no hlt (by rw [HE.out, g1])]; rfl)
          clear HE HX g1
          go_wp2_with fail
          refine wp_region_quiet (C := fun w' => Below V.heap.size V w') (by kernel_rfl) (by kernel_rfl) ((Below.refl _ _).drew) ?_
          dsimp only [Array.toList]
          iterate 18
            with_reducible refine wpQuiet_step (fun K hK => ?_)
            go_simp
            first
              | (refine hK _ ?_; clear hK K)
              | (apply Exists.intro
                 refine ⟨fun w' hw' => ?_, hK _ ?_⟩
                 · have hzz := hcls w' hw'
                   have M1 := HM w'
                   go_split_ands
                   go_simp
                   first
                     | rfl
                     | (refine M1.mono ?_; rintro e w1 ⟨rfl, hb⟩; exact ⟨rfl, hw'.trans (hb.mono hw'.size)⟩)
                 clear hK K)
          refine wpQuiet_nil ?_
          intro W2 hW2
          have hB2 : Below w.heap.size w W2 := Below.on' hBV hW2
          clear hcls HM hW2
          go_wp2
          go_ret
          exact RV.mk (by rw [HF.out]; rfl) hB2
        | true =>
          rw [g1] at HM
          have HX' := Lib.hid (upto_step HX.out (by rw [HE.out, g1]))
          clear HE HX g1
          go_wp2_with fail
          refine wp_region_quiet (C := fun w' => Below V.heap.size V w') (by kernel_rfl) (by kernel_rfl) ((Below.refl _ _).drew) ?_
          dsimp only [Array.toList]
          iterate 18
            with_reducible refine wpQuiet_step (fun K hK => ?_)
            go_simp
            first
              | (refine hK _ ?_; clear hK K)
              | (apply Exists.intro
                 refine ⟨fun w' hw' => ?_, hK _ ?_⟩
                 · have hzz := hcls w' hw'
                   have M1 := HM w'
                   go_split_ands
                   go_simp
                   first
                     | rfl
                     | (refine M1.mono ?_; rintro e w1 ⟨rfl, hb⟩; exact ⟨rfl, hw'.trans (hb.mono hw'.size)⟩)
                 clear hK K)
          refine wpQuiet_nil ?_
          intro W2 hW2
          have hB2 : Below w.heap.size w W2 := Below.on' hBV hW2
          clear hcls HM hW2
          go_wp2
          go_roundw
          case rel => exact ⟨0 + 1, by omega, by go_num, HX', hB2⟩
          case measure => simp [intOf]; omega
      | succ q =>
        obtain ⟨p, hy, _⟩ := get_lt (by omega : q < l.length)
        have HE := Lib.hid (fltAt_s hx hy)
        obtain ⟨b', off', e, _, kb', _, hg⟩ := hSr.at_ hy
        injection e with e
        injection e with e1 e2
        subst e1 e2
        have d0 : wr.cell? ⟨b, off + q * 5, none⟩ = some (.string p.nm) := (hg 0 _ rfl).1
        have hcls : ∀ W, Below (wr.alloc (.cells #[.string a.nm, .int .i64 a.kd, .int .i64 a.nd, .int .i64 a.cw, .int .i64 a.st] 73)).heap.size (wr.alloc (.cells #[.string a.nm, .int .i64 a.kd, .int .i64 a.nd, .int .i64 a.cw, .int .i64 a.st] 73)) W → W.cell? ⟨b, off + q * 5, none⟩ = some (.string p.nm) ∧ W.cell? ⟨wr.heap.size, 0, none⟩ = some (.string a.nm) ∧ W.cell? ⟨wr.heap.size, 1, none⟩ = some (.int .i64 a.kd) ∧ W.cell? ⟨wr.heap.size, 2, none⟩ = some (.int .i64 a.nd) ∧ W.cell? ⟨wr.heap.size, 3, none⟩ = some (.int .i64 a.cw) ∧ W.cell? ⟨wr.heap.size, 4, none⟩ = some (.int .i64 a.st) := fun W hb => ⟨keep hb (lay _ d0), hcls0 W hb⟩
        have hwq : IntKind.i64.wrap (q : Int) = q := IntWalk.i64_in _ (by omega)
        have hql : (q : Int) < l.length := by omega
        clear hx hy hSr hg hcls0 d0
        go_wp2_with fail
        generalize wr.alloc (.cells #[.string a.nm, .int .i64 a.kd, .int .i64 a.nd, .int .i64 a.cw, .int .i64 a.st] 73) = V at hcls hBV ⊢
        clear c0 c1 c2 c3 c4
        cases g1 : appB a with
        | false =>
          rw [g1] at HM
          have HF : Hid (fleetB l = false) := Lib.hid (by rw [fleetB, upto_no hlt (by rw [HE.out, g1]; rfl)]; rfl)
          clear HE HX g1
          go_wp2_with fail
          refine wp_region_quiet (C := fun w' => Below V.heap.size V w') (by kernel_rfl) (by kernel_rfl) ((Below.refl _ _).drew) ?_
          dsimp only [Array.toList]
          iterate 18
            with_reducible refine wpQuiet_step (fun K hK => ?_)
            go_simp
            first
              | (refine hK _ ?_; clear hK K)
              | (apply Exists.intro
                 refine ⟨fun w' hw' => ?_, hK _ ?_⟩
                 · have hzz := hcls w' hw'
                   have M1 := HM w'
                   go_split_ands
                   go_simp
                   first
                     | rfl
                     | (refine M1.mono ?_; rintro e w1 ⟨rfl, hb⟩; exact ⟨rfl, hw'.trans (hb.mono hw'.size)⟩)
                 clear hK K)
          refine wpQuiet_nil ?_
          intro W2 hW2
          have hB2 : Below w.heap.size w W2 := Below.on' hBV hW2
          clear hcls HM hW2
          go_wp2
          go_ret
          exact RV.mk (by rw [HF.out]; rfl) hB2
        | true =>
          rw [g1] at HM
          cases g2 : Op.bytesLess p.nm.toList a.nm.toList with
          | false =>
            have HF : Hid (fleetB l = false) := Lib.hid (by rw [fleetB, upto_no hlt (by rw [HE.out, g1, g2]; rfl)]; rfl)
            clear HE HX g1
            go_wp2_with fail
            refine wp_region_quiet (C := fun w' => Below V.heap.size V w') (by kernel_rfl) (by kernel_rfl) ((Below.refl _ _).drew) ?_
            dsimp only [Array.toList]
            iterate 18
              with_reducible refine wpQuiet_step (fun K hK => ?_)
              go_simp
              first
                | (refine hK _ ?_; clear hK K)
                | (apply Exists.intro
                   refine ⟨fun w' hw' => ?_, hK _ ?_⟩
                   · have hzz := hcls w' hw'
                     have M1 := HM w'
                     go_split_ands
                     go_simp
                     first
                       | rfl
                       | (refine M1.mono ?_; rintro e w1 ⟨rfl, hb⟩; exact ⟨rfl, hw'.trans (hb.mono hw'.size)⟩)
                   clear hK K)
            refine wpQuiet_nil ?_
            intro W2 hW2
            have hB2 : Below w.heap.size w W2 := Below.on' hBV hW2
            clear hcls HM hW2
            go_wp2
            go_ret
            exact RV.mk (by rw [HF.out]; rfl) hB2
          | true =>
            have HX' := Lib.hid (upto_step HX.out (by rw [HE.out, g1, g2]; rfl))
            clear HE HX g1
            go_wp2_with fail
            refine wp_region_quiet (C := fun w' => Below V.heap.size V w') (by kernel_rfl) (by kernel_rfl) ((Below.refl _ _).drew) ?_
            dsimp only [Array.toList]
            iterate 18
              with_reducible refine wpQuiet_step (fun K hK => ?_)
              go_simp
              first
                | (refine hK _ ?_; clear hK K)
                | (apply Exists.intro
                   refine ⟨fun w' hw' => ?_, hK _ ?_⟩
                   · have hzz := hcls w' hw'
                     have M1 := HM w'
                     go_split_ands
                     go_simp
                     first
                       | rfl
                       | (refine M1.mono ?_; rintro e w1 ⟨rfl, hb⟩; exact ⟨rfl, hw'.trans (hb.mono hw'.size)⟩)
                   clear hK K)
            refine wpQuiet_nil ?_
            intro W2 hW2
            have hB2 : Below w.heap.size w W2 := Below.on' hBV hW2
            clear hcls HM hW2
            go_wp2
            go_roundw
            case rel => exact ⟨q + 1 + 1, by omega, by go_num, HX', hB2⟩
            case measure => simp [intOf]; omega
    · obtain rfl : k = l.length := by omega
      have HE : Hid (fleetB l = decide ((l.length : Int) ≤ 12)) := Lib.hid (by
        rw [fleetB, upto_all HX.out, Bool.true_and, Bool.eq_iff_iff, decide_eq_true_eq, decide_eq_true_eq]; omega)
      clear HX
      go_wp2
      go_ret
      exact RV.mk (by rw [HE.out]; rfl) hB
set_option maxRecDepth 100000 in
set_option maxHeartbeats 8000000 in
theorem apFleet_any (Al : Option Addr) (cl : Nat) (l : List App) (w : World) (hl : l.length ≤ 1048576) (hm : ∀ y ∈ l, y.nm.size ≤ 1048576) (hS : Apps w 0 w.heap.size Al l) :
    Calls Tryz.prog 118 #[.slice Al l.length cl] w (RV w (.bool (fleetB l))) := by
  go_enter Tryz.func118, Tryz.ntmps118
  go_wp2_with fail
  go_loopw [7] (fun i wr => ∃ k : Nat, k ≤ l.length ∧ i = .int .i64 k ∧ Hid (∀ i, i < k → fltAt l i = true) ∧ Below w.heap.size w wr) (fun i _ => l.length - (intOf i).toNat)
  case atStart => exact ⟨0, Nat.zero_le _, rfl, Lib.hid (fun i hi => absurd hi (Nat.not_lt_zero i)), Below.refl _ _⟩
  case round =>
    obtain ⟨k, hk, rfl, HX, hB⟩ := hrel
    have hz := hB.size
    by_cases hlt : k < l.length
    · obtain ⟨a, hx, hxM⟩ := get_lt hlt
      have hn := hm _ hxM
      have hSr := (hS.below hB)
      obtain ⟨b, off, rfl, _, kb, _, hf⟩ := hSr.at_ hx
      have c0 : wr.cell? ⟨b, off + k * 5, none⟩ = some (.string a.nm) := (hf 0 _ rfl).1
      have c1 : wr.cell? ⟨b, off + k * 5 + 1, none⟩ = some (.int .i64 a.kd) := (hf 1 _ rfl).1
      have c2 : wr.cell? ⟨b, off + k * 5 + 2, none⟩ = some (.int .i64 a.nd) := (hf 2 _ rfl).1
      have c3 : wr.cell? ⟨b, off + k * 5 + 3, none⟩ = some (.int .i64 a.cw) := (hf 3 _ rfl).1
      have c4 : wr.cell? ⟨b, off + k * 5 + 4, none⟩ = some (.int .i64 a.st) := (hf 4 _ rfl).1
      have hcls0 : ∀ W, Below (wr.alloc (.cells #[.string a.nm, .int .i64 a.kd, .int .i64 a.nd, .int .i64 a.cw, .int .i64 a.st] 73)).heap.size (wr.alloc (.cells #[.string a.nm, .int .i64 a.kd, .int .i64 a.nd, .int .i64 a.cw, .int .i64 a.st] 73)) W → W.cell? ⟨wr.heap.size, 0, none⟩ = some (.string a.nm) ∧ W.cell? ⟨wr.heap.size, 1, none⟩ = some (.int .i64 a.kd) ∧ W.cell? ⟨wr.heap.size, 2, none⟩ = some (.int .i64 a.nd) ∧ W.cell? ⟨wr.heap.size, 3, none⟩ = some (.int .i64 a.cw) ∧ W.cell? ⟨wr.heap.size, 4, none⟩ = some (.int .i64 a.st) := fun W hb =>
        have H := fun t u hu => keep hb (new_cells (E := App.cells) wr 73 a _ rfl t u hu)
        ⟨H 0 _ rfl, H 1 _ rfl, H 2 _ rfl, H 3 _ rfl, H 4 _ rfl⟩
      have HM : ∀ W, Calls Tryz.prog 149 #[.agg #[.string a.nm, .int .i64 a.kd, .int .i64 a.nd, .int .i64 a.cw, .int .i64 a.st]] W (RV W (.bool (appB a))) := fun W => apGood_any a W hn
      have hBV : Below w.heap.size w (wr.alloc (.cells #[.string a.nm, .int .i64 a.kd, .int .i64 a.nd, .int .i64 a.cw, .int .i64 a.st] 73)) := by go_grown
      clear hf hxM
      cases k with
      | zero =>
        have HE := Lib.hid (fltAt_0 hx)
        clear hx hSr
        have hcls := hcls0
        clear hcls0
        simp only [Nat.zero_mul, Nat.add_zero] at c0 c1 c2 c3 c4
        go_wp2_with fail
        generalize wr.alloc (.cells #[.string a.nm, .int .i64 a.kd, .int .i64 a.nd, .int .i64 a.cw, .int .i64 a.st] 73) = V at hcls hBV ⊢
        clear c0 c1 c2 c3 c4
        cases g1 : appB a with
        | false =>
          rw [g1] at HM
          have HF : Hid (fleetB l = false) := Lib.hid (by rw [fleetB, upto_no hlt (by rw [HE.out, g1])]; rfl)
          clear HE HX g1
          go_wp2_with fail
          refine wp_region_quiet (C := fun w' => Below V.heap.size V w') (by kernel_rfl) (by kernel_rfl) ((Below.refl _ _).drew) ?_
          dsimp only [Array.toList]
          iterate 18
            with_reducible refine wpQuiet_step (fun K hK => ?_)
            go_simp
            first
              | (refine hK _ ?_; clear hK K)
              | (apply Exists.intro
                 refine ⟨fun w' hw' => ?_, hK _ ?_⟩
                 · have hzz := hcls w' hw'
                   have M1 := HM w'
                   go_split_ands
                   go_simp
                   first
                     | rfl
                     | (refine M1.mono ?_; rintro e w1 ⟨rfl, hb⟩; exact ⟨rfl, hw'.trans (hb.mono hw'.size)⟩)
                 clear hK K)
          refine wpQuiet_nil ?_
          intro W2 hW2
          have hB2 : Below w.heap.size w W2 := Below.on' hBV hW2
          clear hcls HM hW2
          go_wp2
          go_ret
          exact RV.mk (by rw [HF.out]; rfl) hB2
        | true =>
          rw [g1] at HM
          have HX' := Lib.hid (upto_step HX.out (by rw [HE.out, g1]))
          clear HE HX g1
          go_wp2_with fail
          refine wp_region_quiet (C := fun w' => Below V.heap.size V w') (by kernel_rfl) (by kernel_rfl) ((Below.refl _ _).drew) ?_
          dsimp only [Array.toList]
          iterate 18
            with_reducible refine wpQuiet_step (fun K hK => ?_)
            go_simp
            first
              | (refine hK _ ?_; clear hK K)
              | (apply Exists.intro
                 refine ⟨fun w' hw' => ?_, hK _ ?_⟩
                 · have hzz := hcls w' hw'
                   have M1 := HM w'
                   go_split_ands
                   go_simp
                   first
                     | rfl
                     | (refine M1.mono ?_; rintro e w1 ⟨rfl, hb⟩; exact ⟨rfl, hw'.trans (hb.mono hw'.size)⟩)
                 clear hK K)
          refine wpQuiet_nil ?_
          intro W2 hW2
          have hB2 : Below w.heap.size w W2 := Below.on' hBV hW2
          clear hcls HM hW2
          go_wp2
          go_roundw
          case rel => exact ⟨0 + 1, by omega, by go_num, HX', hB2⟩
          case measure => simp [intOf]; omega
      | succ q =>
        obtain ⟨p, hy, _⟩ := get_lt (by omega : q < l.length)
        have HE := Lib.hid (fltAt_s hx hy)
        obtain ⟨b', off', e, _, kb', _, hg⟩ := hSr.at_ hy
        injection e with e
        injection e with e1 e2
        subst e1 e2
        have d0 : wr.cell? ⟨b, off + q * 5, none⟩ = some (.string p.nm) := (hg 0 _ rfl).1
        have hcls : ∀ W, Below (wr.alloc (.cells #[.string a.nm, .int .i64 a.kd, .int .i64 a.nd, .int .i64 a.cw, .int .i64 a.st] 73)).heap.size (wr.alloc (.cells #[.string a.nm, .int .i64 a.kd, .int .i64 a.nd, .int .i64 a.cw, .int .i64 a.st] 73)) W → W.cell? ⟨b, off + q * 5, none⟩ = some (.string p.nm) ∧ W.cell? ⟨wr.heap.size, 0, none⟩ = some (.string a.nm) ∧ W.cell? ⟨wr.heap.size, 1, none⟩ = some (.int .i64 a.kd) ∧ W.cell? ⟨wr.heap.size, 2, none⟩ = some (.int .i64 a.nd) ∧ W.cell? ⟨wr.heap.size, 3, none⟩ = some (.int .i64 a.cw) ∧ W.cell? ⟨wr.heap.size, 4, none⟩ = some (.int .i64 a.st) := fun W hb => ⟨keep hb (lay _ d0), hcls0 W hb⟩
        have hwq : IntKind.i64.wrap (q : Int) = q := IntWalk.i64_in _ (by omega)
        have hql : (q : Int) < l.length := by omega
        clear hx hy hSr hg hcls0 d0
        go_wp2_with fail
        generalize wr.alloc (.cells #[.string a.nm, .int .i64 a.kd, .int .i64 a.nd, .int .i64 a.cw, .int .i64 a.st] 73) = V at hcls hBV ⊢
        clear c0 c1 c2 c3 c4
        cases g1 : appB a with
        | false =>
          rw [g1] at HM
          have HF : Hid (fleetB l = false) := Lib.hid (by rw [fleetB, upto_no hlt (by rw [HE.out, g1]; rfl)]; rfl)
          clear HE HX g1
          go_wp2_with fail
          refine wp_region_quiet (C := fun w' => Below V.heap.size V w') (by kernel_rfl) (by kernel_rfl) ((Below.refl _ _).drew) ?_
          dsimp only [Array.toList]
          iterate 18
            with_reducible refine wpQuiet_step (fun K hK => ?_)
            go_simp
            first
              | (refine hK _ ?_; clear hK K)
              | (apply Exists.intro
                 refine ⟨fun w' hw' => ?_, hK _ ?_⟩
                 · have hzz := hcls w' hw'
                   have M1 := HM w'
                   go_split_ands
                   go_simp
                   first
                     | rfl
                     | (refine M1.mono ?_; rintro e w1 ⟨rfl, hb⟩; exact ⟨rfl, hw'.trans (hb.mono hw'.size)⟩)
                 clear hK K)
          refine wpQuiet_nil ?_
          intro W2 hW2
          have hB2 : Below w.heap.size w W2 := Below.on' hBV hW2
          clear hcls HM hW2
          go_wp2
          go_ret
          exact RV.mk (by rw [HF.out]; rfl) hB2
        | true =>
          rw [g1] at HM
          cases g2 : Op.bytesLess p.nm.toList a.nm.toList with
          | false =>
            have HF : Hid (fleetB l = false) := Lib.hid (by rw [fleetB, upto_no hlt (by rw [HE.out, g1, g2]; rfl)]; rfl)
            clear HE HX g1
            go_wp2_with fail
            refine wp_region_quiet (C := fun w' => Below V.heap.size V w') (by kernel_rfl) (by kernel_rfl) ((Below.refl _ _).drew) ?_
            dsimp only [Array.toList]
            iterate 18
              with_reducible refine wpQuiet_step (fun K hK => ?_)
              go_simp
              first
                | (refine hK _ ?_; clear hK K)
                | (apply Exists.intro
                   refine ⟨fun w' hw' => ?_, hK _ ?_⟩
                   · have hzz := hcls w' hw'
                     have M1 := HM w'
                     go_split_ands
                     go_simp
                     first
                       | rfl
                       | (refine M1.mono ?_; rintro e w1 ⟨rfl, hb⟩; exact ⟨rfl, hw'.trans (hb.mono hw'.size)⟩)
                   clear hK K)
            refine wpQuiet_nil ?_
            intro W2 hW2
            have hB2 : Below w.heap.size w W2 := Below.on' hBV hW2
            clear hcls HM hW2
            go_wp2
            go_ret
            exact RV.mk (by rw [HF.out]; rfl) hB2
          | true =>
            have HX' := Lib.hid (upto_step HX.out (by rw [HE.out, g1, g2]; rfl))
            clear HE HX g1
            go_wp2_with fail
            refine wp_region_quiet (C := fun w' => Below V.heap.size V w') (by kernel_rfl) (by kernel_rfl) ((Below.refl _ _).drew) ?_
            dsimp only [Array.toList]
            iterate 18
              with_reducible refine wpQuiet_step (fun K hK => ?_)
              go_simp
              first
                | (refine hK _ ?_; clear hK K)
                | (apply Exists.intro
                   refine ⟨fun w' hw' => ?_, hK _ ?_⟩
                   · have hzz := hcls w' hw'
                     have M1 := HM w'
                     go_split_ands
                     go_simp
                     first
                       | rfl
                       | (refine M1.mono ?_; rintro e w1 ⟨rfl, hb⟩; exact ⟨rfl, hw'.trans (hb.mono hw'.size)⟩)
                   clear hK K)
            refine wpQuiet_nil ?_
            intro W2 hW2
            have hB2 : Below w.heap.size w W2 := Below.on' hBV hW2
            clear hcls HM hW2
            go_wp2
            go_roundw
            case rel => exact ⟨q + 1 + 1, by omega, by go_num, HX', hB2⟩
            case measure => simp [intOf]; omega
    · obtain rfl : k = l.length := by omega
      have HE : Hid (fleetB l = decide ((l.length : Int) ≤ 12)) := Lib.hid (by
        rw [fleetB, upto_all HX.out, Bool.true_and, Bool.eq_iff_iff, decide_eq_true_eq, decide_eq_true_eq]; omega)
      clear HX
      go_wp2
      go_ret
      exact RV.mk (by rw [HE.out]; rfl) hB
end Go.Proofs.YtjmjilkpckbpeaaGreatDoor
namespace Go.Proofs.YtjmjilkpckbpeaaGreatDoor
open Go.RowKit

/-- A box of values. -/
def BN (b : Nat) (vs : List Value) (X : World) : Prop := ∀ j v, vs[j]? = some v → X.cell? ⟨b, j, none⟩ = some v ∧ X.frozen? ⟨b, j, none⟩ = false
section
variable {b : Nat} {vs : List Value} {X X' : World}
theorem BN.same (a : BN b vs X) (e : X'.heap[b]? = X.heap[b]?) : BN b vs X' := fun j v h => ⟨(World.cell?_of_block (a := ⟨b, j, none⟩) e).trans (a j v h).1, (World.frozen?_of_block (a := ⟨b, j, none⟩) e).trans (a j v h).2⟩
theorem BN.lt (a : BN b vs X) (h : vs ≠ []) : b < X.heap.size := by
  cases vs with
  | nil => exact absurd rfl h
  | cons v l => exact World.block_lt_of_cell? _ _ (a 0 v rfl).1
theorem BN.upto {B : Nat} (a : BN b vs X) (hB : b < B) (hb : Below B X X') : BN b vs X' := a.same (hb.block b hB)
theorem BN.new (w : World) (cs : Array Value) (T : TypeId) (n : Nat) (hn : n = w.heap.size) : BN n cs.toList (w.alloc (.cells cs T)) := fun j v h => by
  subst hn
  refine ⟨?_, World.frozen?_alloc_at _ _ _ _ rfl⟩
  rw [World.cell?_alloc_at _ _ _ _ rfl]
  simpa using h
end
def cells5 (b : Nat) (v0 v1 v2 v3 v4 : Value) (X : World) : Prop := X.cell? ⟨b, 0, none⟩ = some v0 ∧ X.cell? ⟨b, 1, none⟩ = some v1 ∧ X.cell? ⟨b, 2, none⟩ = some v2 ∧ X.cell? ⟨b, 3, none⟩ = some v3 ∧ X.cell? ⟨b, 4, none⟩ = some v4
theorem cells5.new (w : World) (v0 v1 v2 v3 v4 : Value) (T : TypeId) (n : Nat) (hn : n = w.heap.size) : cells5 n v0 v1 v2 v3 v4 (w.alloc (.cells #[v0, v1, v2, v3, v4] T)) := by
  subst hn
  exact ⟨by simp, by simp, by simp, by simp, by simp⟩
theorem cells5.below {b : Nat} {v0 v1 v2 v3 v4 : Value} {X X' : World} (a : cells5 b v0 v1 v2 v3 v4 X) (hb : Below X.heap.size X X') : cells5 b v0 v1 v2 v3 v4 X' := ⟨keep hb a.1, keep hb a.2.1, keep hb a.2.2.1, keep hb a.2.2.2.1, keep hb a.2.2.2.2⟩
theorem cells5.lt {b : Nat} {v0 v1 v2 v3 v4 : Value} {X : World} (a : cells5 b v0 v1 v2 v3 v4 X) : b < X.heap.size := World.block_lt_of_cell? _ _ a.1
theorem cells5.alloc {b : Nat} {v0 v1 v2 v3 v4 : Value} {X : World} (a : cells5 b v0 v1 v2 v3 v4 X) (o : Obj) : cells5 b v0 v1 v2 v3 v4 (X.alloc o) := a.below ((Below.refl _ _).alloc (Nat.le_refl _) o)
theorem cells5.fr {b lo hi : Nat} {v0 v1 v2 v3 v4 : Value} {X X' : World} (a : cells5 b v0 v1 v2 v3 v4 X) (hF : Fr lo hi X X') (hd : b < lo ∨ hi ≤ b) : cells5 b v0 v1 v2 v3 v4 X' :=
  have e : ∀ o, X'.cell? ⟨b, o, none⟩ = X.cell? ⟨b, o, none⟩ := fun o => World.cell?_of_block (a := ⟨b, o, none⟩) (hF.block b a.lt (by omega))
  ⟨(e _).trans a.1, (e _).trans a.2.1, (e _).trans a.2.2.1, (e _).trans a.2.2.2.1, (e _).trans a.2.2.2.2⟩
theorem cells5.set5 {b : Nat} {u0 u1 u2 u3 u4 : Value} {X : World} (a : cells5 b u0 u1 u2 u3 u4 X) (v0 v1 v2 v3 v4 : Value) : cells5 b v0 v1 v2 v3 v4 (((((X.setCell ⟨b, 0, none⟩ v0).setCell ⟨b, 1, none⟩ v1).setCell ⟨b, 2, none⟩ v2).setCell ⟨b, 3, none⟩ v3).setCell ⟨b, 4, none⟩ v4) :=
  ⟨((World.cell?_setCell_other _ _ _ _ (by simp)).trans (((World.cell?_setCell_other _ _ _ _ (by simp)).trans (((World.cell?_setCell_other _ _ _ _ (by simp)).trans (((World.cell?_setCell_other _ _ _ _ (by simp)).trans (World.cell?_setCell_same _ _ _ (a.1))))))))), ((World.cell?_setCell_other _ _ _ _ (by simp)).trans (((World.cell?_setCell_other _ _ _ _ (by simp)).trans (((World.cell?_setCell_other _ _ _ _ (by simp)).trans (World.cell?_setCell_same _ _ _ (((World.cell?_setCell_other _ _ _ _ (by simp)).trans a.2.1)))))))), ((World.cell?_setCell_other _ _ _ _ (by simp)).trans (((World.cell?_setCell_other _ _ _ _ (by simp)).trans (World.cell?_setCell_same _ _ _ (((World.cell?_setCell_other _ _ _ _ (by simp)).trans ((World.cell?_setCell_other _ _ _ _ (by simp)).trans a.2.2.1))))))), ((World.cell?_setCell_other _ _ _ _ (by simp)).trans (World.cell?_setCell_same _ _ _ (((World.cell?_setCell_other _ _ _ _ (by simp)).trans ((World.cell?_setCell_other _ _ _ _ (by simp)).trans ((World.cell?_setCell_other _ _ _ _ (by simp)).trans a.2.2.2.1)))))), World.cell?_setCell_same _ _ _ (((World.cell?_setCell_other _ _ _ _ (by simp)).trans ((World.cell?_setCell_other _ _ _ _ (by simp)).trans ((World.cell?_setCell_other _ _ _ _ (by simp)).trans ((World.cell?_setCell_other _ _ _ _ (by simp)).trans a.2.2.2.2)))))⟩
theorem Fr.empty {lo hi : Nat} {w w' : World} (h : Fr 0 0 w w') : Fr lo hi w w' := ⟨h.os, h.tape, h.output, h.size, fun b hb _ => h.block b hb (by omega)⟩
def seT (l : List App) : (List App × List App) × Bool := if fleetB l = true then ((l, l), true) else (([], []), false)
theorem seT_len {l : List App} (hl : l.length ≤ 1048576) : (seT l).1.1.length ≤ 1048576 ∧ (seT l).1.2.length ≤ 1048576 := by
  unfold seT
  split <;> simp [hl]
/-- Ends without a message returned, and a bool. -/
def REB (w : World) (f n : List App) (B : Bool) (e : Ending) (w' : World) : Prop :=
  ∃ A1 c1 A2 c2 m, e = .returned (.tuple #[.agg #[.slice A1 f.length c1, .slice A2 n.length c2, .slice none 0 0, .slice none 0 0, .slice none 0 0], .bool B]) ∧ Apps w' w.heap.size m A1 f ∧ Apps w' m w'.heap.size A2 n ∧ w.heap.size ≤ m ∧ m ≤ w'.heap.size ∧ Below w.heap.size w w'
set_option maxRecDepth 100000 in
set_option maxHeartbeats 8000000 in
theorem StartEnds_impl (Al : Option Addr) (cl : Nat) (l : List App) (w : World) (hl : l.length ≤ 1048576) (hm : ∀ y ∈ l, y.nm.size ≤ 1048576) (hS : Apps w 0 w.heap.size Al l) :
    Calls Tryz.prog 39 #[.slice Al l.length cl] w (REB w (seT l).1.1 (seT l).1.2 (seT l).2) := by
  obtain ⟨i0, hi0, hz0, hz1, hz2⟩ := info_parts App.info
  generalize hT : seT l = t
  replace hT := Lib.hid hT
  have hX := cells5.new w (.slice none 0 0) (.slice none 0 0) (.slice none 0 0) (.slice none 0 0) (.slice none 0 0) 52 _ rfl
  have hFz : ∀ j, j < 5 → (w.alloc (.cells #[.slice none 0 0, .slice none 0 0, .slice none 0 0, .slice none 0 0, .slice none 0 0] 52)).frozen? ⟨w.heap.size, j, none⟩ = false := fun j _ => World.frozen?_alloc_at _ _ _ _ rfl
  go_enter Tryz.func39, Tryz.ntmps39
  go_wp2_with fail
  refine (isFleet_any Al cl l _ hl hm (hS.alloc _).all).mono ?_
  rintro e w1 ⟨rfl, hb⟩
  have hB : Below w.heap.size w w1 := Below.on' (by go_grown) hb
  have hlt0 := hX.lt
  replace hX := hX.below hb
  have hfz : ∀ j, j < 5 → w1.frozen? ⟨w.heap.size, j, none⟩ = false := fun j hj => (hb.frozen (p := ⟨w.heap.size, j, none⟩) hlt0).trans (hFz j hj)
  clear hb hFz hlt0
  have hlt := hX.lt
  obtain ⟨b0, b1, b2, b3, b4⟩ := id hX
  have f0 := hfz 0 (by omega)
  have f1 := hfz 1 (by omega)
  have f2 := hfz 2 (by omega)
  have f3 := hfz 3 (by omega)
  have f4 := hfz 4 (by omega)
  by_cases g : fleetB l = true
  rotate_left
  · have g' : fleetB l = false := by simpa using g
    obtain rfl : (([], []), false) = t := by rw [← hT.out, seT, if_neg g]
    rw [g']
    have hF : Fr w.heap.size (w.heap.size + 1) w1 (((((w1.setCell ⟨w.heap.size, 0, none⟩ (.slice none 0 0)).setCell ⟨w.heap.size, 1, none⟩ (.slice none 0 0)).setCell ⟨w.heap.size, 2, none⟩ (.slice none 0 0)).setCell ⟨w.heap.size, 3, none⟩ (.slice none 0 0)).setCell ⟨w.heap.size, 4, none⟩ (.slice none 0 0)) := (((((Fr.refl _ _ _).setCell ⟨by simp, by simp⟩ _).setCell ⟨by simp, by simp⟩ _).setCell ⟨by simp, by simp⟩ _).setCell ⟨by simp, by simp⟩ _).setCell ⟨by simp, by simp⟩ _
    have hB' := hB.trans (hF.below (B := w.heap.size) (by omega) (by have := hB.size; omega))
    obtain ⟨x0, x1, x2, x3, x4⟩ := hX.set5 (.slice none 0 0) (.slice none 0 0) (.slice none 0 0) (.slice none 0 0) (.slice none 0 0)
    go_wp2
    refine bodyPost_ret (by simp [results, Tryz.results39, go_sem, x0, x1, x2, x3, x4]; try rfl) rfl ?_
    exact ⟨none, 0, none, 0, w.heap.size, rfl, Sl.nil_, Sl.nil_, Nat.le_refl _, hB'.size, hB'⟩
  rw [g]
  obtain rfl : ((l, l), true) = t := by rw [← hT.out, seT, if_pos g]
  clear hT g
  go_wp2_with fail
  refine (App.Clone_any Al cl l _ hl (hS.below hB).all).mono ?_
  rintro e w2 ⟨A1, c1, rfl, hO1, hb1⟩
  have hB2 := Below.on' hB hb1
  replace hX := hX.below hb1
  go_wp2_with fail
  refine (App.Clone_any Al cl l _ hl (hS.below hB2).all).mono ?_
  rintro e w3 ⟨A2, c2, rfl, hO2, hb2⟩
  replace hB := Below.on' hB2 hb2
  replace hX := hX.below hb2
  have hs1 := hb1.size
  have hs2 := hb2.size
  have hlt3 := hX.lt
  replace hfz : ∀ j, j < 5 → w3.frozen? ⟨w.heap.size, j, none⟩ = false := fun j hj => ((hb2.frozen (p := ⟨w.heap.size, j, none⟩) (by simp only; omega)).trans (hb1.frozen (p := ⟨w.heap.size, j, none⟩) hlt)).trans (hfz j hj)
  have S1 := ((hO1.sl App.len).below hb2).mono (lo' := w1.heap.size) (hi' := w2.heap.size) (Nat.le_refl _) (Nat.le_refl _) hs2
  have S2 := hO2.sl App.len
  clear b0 b1 b2 b3 b4 f0 f1 f2 f3 f4 hO1 hO2
  obtain ⟨b0, b1, b2, b3, b4⟩ := id hX
  have f0 := hfz 0 (by omega)
  have f1 := hfz 1 (by omega)
  have f2 := hfz 2 (by omega)
  have f3 := hfz 3 (by omega)
  have f4 := hfz 4 (by omega)
  have hF : Fr w.heap.size (w.heap.size + 1) w3 (((((w3.setCell ⟨w.heap.size, 0, none⟩ (.slice A1 l.length c1)).setCell ⟨w.heap.size, 1, none⟩ (.slice A2 l.length c2)).setCell ⟨w.heap.size, 2, none⟩ (.slice none 0 0)).setCell ⟨w.heap.size, 3, none⟩ (.slice none 0 0)).setCell ⟨w.heap.size, 4, none⟩ (.slice none 0 0)) := (((((Fr.refl _ _ _).setCell ⟨by simp, by simp⟩ _).setCell ⟨by simp, by simp⟩ _).setCell ⟨by simp, by simp⟩ _).setCell ⟨by simp, by simp⟩ _).setCell ⟨by simp, by simp⟩ _
  have hB' := hB.trans (hF.below (B := w.heap.size) (by omega) (by have := hB.size; omega))
  obtain ⟨x0, x1, x2, x3, x4⟩ := hX.set5 (.slice A1 l.length c1) (.slice A2 l.length c2) (.slice none 0 0) (.slice none 0 0) (.slice none 0 0)
  go_wp2
  refine bodyPost_ret (by simp [results, Tryz.results39, go_sem, x0, x1, x2, x3, x4]; try rfl) rfl ?_
  exact ⟨A1, c1, A2, c2, w2.heap.size, rfl, (S1.fr hF (by omega)).mono (by omega) (Nat.le_refl _) (by have := hF.size; omega), (S2.fr hF (by omega)).mono (Nat.le_refl _) hF.size (Nat.le_refl _), by omega, by have := hF.size; omega, hB'⟩
set_option maxRecDepth 100000 in
set_option maxHeartbeats 8000000 in
theorem StartEnds_spec (Al : Option Addr) (cl : Nat) (l : List App) (w : World) (hl : l.length ≤ 1048576) (hm : ∀ y ∈ l, y.nm.size ≤ 1048576) (hS : Apps w 0 w.heap.size Al l) :
    Calls Tryz.prog 40 #[.slice Al l.length cl] w (REB w (seT l).1.1 (seT l).1.2 (seT l).2) := by
  obtain ⟨i0, hi0, hz0, hz1, hz2⟩ := info_parts App.info
  generalize hT : seT l = t
  replace hT := Lib.hid hT
  have hX := cells5.new w (.slice none 0 0) (.slice none 0 0) (.slice none 0 0) (.slice none 0 0) (.slice none 0 0) 52 _ rfl
  have hFz : ∀ j, j < 5 → (w.alloc (.cells #[.slice none 0 0, .slice none 0 0, .slice none 0 0, .slice none 0 0, .slice none 0 0] 52)).frozen? ⟨w.heap.size, j, none⟩ = false := fun j _ => World.frozen?_alloc_at _ _ _ _ rfl
  go_enter Tryz.func40, Tryz.ntmps40
  go_wp2_with fail
  refine (apFleet_any Al cl l _ hl hm (hS.alloc _).all).mono ?_
  rintro e w1 ⟨rfl, hb⟩
  have hB : Below w.heap.size w w1 := Below.on' (by go_grown) hb
  have hlt0 := hX.lt
  replace hX := hX.below hb
  have hfz : ∀ j, j < 5 → w1.frozen? ⟨w.heap.size, j, none⟩ = false := fun j hj => (hb.frozen (p := ⟨w.heap.size, j, none⟩) hlt0).trans (hFz j hj)
  clear hb hFz hlt0
  have hlt := hX.lt
  obtain ⟨b0, b1, b2, b3, b4⟩ := id hX
  have f0 := hfz 0 (by omega)
  have f1 := hfz 1 (by omega)
  have f2 := hfz 2 (by omega)
  have f3 := hfz 3 (by omega)
  have f4 := hfz 4 (by omega)
  by_cases g : fleetB l = true
  rotate_left
  · have g' : fleetB l = false := by simpa using g
    obtain rfl : (([], []), false) = t := by rw [← hT.out, seT, if_neg g]
    rw [g']
    have hF : Fr w.heap.size (w.heap.size + 1) w1 (((((w1.setCell ⟨w.heap.size, 0, none⟩ (.slice none 0 0)).setCell ⟨w.heap.size, 1, none⟩ (.slice none 0 0)).setCell ⟨w.heap.size, 2, none⟩ (.slice none 0 0)).setCell ⟨w.heap.size, 3, none⟩ (.slice none 0 0)).setCell ⟨w.heap.size, 4, none⟩ (.slice none 0 0)) := (((((Fr.refl _ _ _).setCell ⟨by simp, by simp⟩ _).setCell ⟨by simp, by simp⟩ _).setCell ⟨by simp, by simp⟩ _).setCell ⟨by simp, by simp⟩ _).setCell ⟨by simp, by simp⟩ _
    have hB' := hB.trans (hF.below (B := w.heap.size) (by omega) (by have := hB.size; omega))
    obtain ⟨x0, x1, x2, x3, x4⟩ := hX.set5 (.slice none 0 0) (.slice none 0 0) (.slice none 0 0) (.slice none 0 0) (.slice none 0 0)
    go_wp2
    refine bodyPost_ret (by simp [results, Tryz.results40, go_sem, x0, x1, x2, x3, x4]; try rfl) rfl ?_
    exact ⟨none, 0, none, 0, w.heap.size, rfl, Sl.nil_, Sl.nil_, Nat.le_refl _, hB'.size, hB'⟩
  rw [g]
  obtain rfl : ((l, l), true) = t := by rw [← hT.out, seT, if_pos g]
  clear hT g
  go_wp2_with (first
    | (at_builtin; refine wpList_append_all _ rfl (.tmp 8) (.tmp 9) _ rfl i0 _ _ Tryz.underlying50 hi0 hz0 hz1 hz2 rfl (by omega) App.len App.one (Own.empty w1 (Nat.le_refl _)) ((hS.below hB).alloc _) rfl rfl (by unfold maxLen; first | omega | (simp; omega)) (by first | omega | (simp; omega)) (by first | exact Nat.le_refl _ | (simp; done) | omega) ?_; intro A1 c1 v2 L1 hL1 hO1 hb1; have hb1' : Below w1.heap.size w1 v2 := ((Below.refl _ _).alloc (Nat.le_refl _) _).trans hb1; have hB2 := hB.trans (hb1'.mono hB.size))
    | (at_builtin; refine wpList_append_all _ rfl (.tmp 11) (.tmp 12) _ rfl i0 _ _ Tryz.underlying50 hi0 hz0 hz1 hz2 rfl (by omega) App.len App.one (Own.empty v2 (Nat.le_refl _)) ((hS.below hB2).alloc _) rfl rfl (by unfold maxLen; first | omega | (simp; omega)) (by first | omega | (simp; omega)) (by first | exact Nat.le_refl _ | (simp; done) | omega) ?_; intro A2 c2 v3 L2 hL2 hO2 hb2; have hb2' : Below v2.heap.size v2 v3 := ((Below.refl _ _).alloc (Nat.le_refl _) _).trans hb2; have hB3 := hB2.trans (hb2'.mono hB2.size); have hs1 : w1.heap.size ≤ v2.heap.size := hb1'.size; have hs2 := hb2'.size; have hX3 := (hX.below hb1').below hb2'; have hfz3 : ∀ j, j < 5 → v3.frozen? ⟨w.heap.size, j, none⟩ = false := fun j hj => ((hb2'.frozen (p := ⟨w.heap.size, j, none⟩) (by simp only; omega)).trans (hb1'.frozen (p := ⟨w.heap.size, j, none⟩) hlt)).trans (hfz j hj); have S1 := ((hO1.sl App.len).below hb2').mono (lo' := w1.heap.size) (hi' := v2.heap.size) (Nat.le_refl _) (Nat.le_refl _) hs2; have S2 := hO2.sl App.len; clear b0 b1 b2 b3 b4 f0 f1 f2 f3 f4 hO1 hO2; obtain ⟨b0, b1, b2, b3, b4⟩ := id hX3; have f0 := hfz3 0 (by omega); have f1 := hfz3 1 (by omega); have f2 := hfz3 2 (by omega); have f3 := hfz3 3 (by omega); have f4 := hfz3 4 (by omega)))
  obtain rfl : L1 = l := hL1.out
  obtain rfl : L2 = L1 := hL2.out
  replace hB := hB3
  replace hX := hX3
  have hF : Fr w.heap.size (w.heap.size + 1) v3 (((((v3.setCell ⟨w.heap.size, 0, none⟩ (.slice A1 L2.length c1)).setCell ⟨w.heap.size, 1, none⟩ (.slice A2 L2.length c2)).setCell ⟨w.heap.size, 2, none⟩ (.slice none 0 0)).setCell ⟨w.heap.size, 3, none⟩ (.slice none 0 0)).setCell ⟨w.heap.size, 4, none⟩ (.slice none 0 0)) := (((((Fr.refl _ _ _).setCell ⟨by simp, by simp⟩ _).setCell ⟨by simp, by simp⟩ _).setCell ⟨by simp, by simp⟩ _).setCell ⟨by simp, by simp⟩ _).setCell ⟨by simp, by simp⟩ _
  have hB' := hB.trans (hF.below (B := w.heap.size) (by omega) (by have := hB.size; omega))
  obtain ⟨x0, x1, x2, x3, x4⟩ := hX.set5 (.slice A1 L2.length c1) (.slice A2 L2.length c2) (.slice none 0 0) (.slice none 0 0) (.slice none 0 0)
  refine bodyPost_ret (by simp [results, Tryz.results40, go_sem, x0, x1, x2, x3, x4]; try rfl) rfl ?_
  exact ⟨A1, c1, A2, c2, v2.heap.size, rfl, (S1.fr hF (by omega)).mono (by omega) (Nat.le_refl _) (by have := hF.size; omega), (S2.fr hF (by omega)).mono (Nat.le_refl _) hF.size (Nat.le_refl _), by omega, by have := hF.size; omega, hB'⟩
end Go.Proofs.YtjmjilkpckbpeaaGreatDoor
namespace Go.Proofs.YtjmjilkpckbpeaaGreatDoor
open Go.ChangeShapes Go.WideShapes Go.ChangeAt Go.RowKit Go.Joins

end Go.Proofs.YtjmjilkpckbpeaaGreatDoor
namespace Go.Proofs.YtjmjilkpckbpeaaGreatDoor
open Go.RowKit

def okA (l : List App) : Prop := l.length ≤ 1048576 ∧ ∀ x ∈ l, x.nm.size ≤ 1048576
theorem BN.off {b : Nat} {vs : List Value} {X : World} (a : BN b vs X) {p : Addr} (hp : p.block ≠ b) (v : Value) : BN b vs (X.setCell p v) := fun j u e => ⟨unset (a j u e).1 hp, (World.frozen?_setCell ..).trans (a j u e).2⟩
theorem BN.put {b : Nat} {vs : List Value} {X : World} (a : BN b vs X) {i : Nat} {u : Value} (hi : vs[i]? = some u) (v : Value) : BN b (vs.set i v) (X.setCell ⟨b, i, none⟩ v) := fun j z e => by
  refine ⟨?_, (World.frozen?_setCell ..).trans ?_⟩
  · by_cases q : i = j
    · subst q
      rw [List.getElem?_set_self (List.getElem?_eq_some_iff.1 hi).1] at e
      obtain rfl := Option.some.inj e
      exact World.cell?_setCell_same _ _ _ (a i u hi).1
    · rw [List.getElem?_set_ne q] at e
      exact (World.cell?_setCell_other _ _ _ _ (fun e => q (by injection e))).trans (a j z e).1
  · by_cases q : i = j
    · subst q; exact (a i u hi).2
    · rw [List.getElem?_set_ne q] at e; exact (a j z e).2
end Go.Proofs.YtjmjilkpckbpeaaGreatDoor

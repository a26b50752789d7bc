/- Appliances in memory, and the law's own helpers over them: copying, measuring, comparing, marking. No conditions. -/
import Derived.Test.YtianabfehonliaaDoorMem
import Derived.StillTailTactics
import Derived.Deep.RegionHeld3
import Derived.OwnWalk
namespace Go.Proofs.YtianabfehonliaaDoor
open Go.RowKit

structure App where
  nm : ByteArray
  kd : Int
  nd : Int
  cw : Int
  st : Int
def App.cells (e : App) : List Value := [.string e.nm, .int .i64 e.kd, .int .i64 e.nd, .int .i64 e.cw, .int .i64 e.st]
theorem App.len (e : App) : e.cells.length = 5 := rfl
abbrev Apps (w : World) (lo hi : Nat) (A : Option Addr) (l : List App) : Prop := Sl App.cells 5 w lo hi A l

theorem toAppliance_any (nm : ByteArray) (kd : Int) (nd : Int) (cw : Int) (st : Int) (w : World) : Calls Tryd.prog 47 #[.agg #[.string nm, .int .i64 kd, .int .i64 nd, .int .i64 cw, .int .i64 st]] w (RV w (.agg #[.string nm, .int .i64 kd, .int .i64 nd, .int .i64 cw, .int .i64 st])) := by
  go_enter Tryd.func47, Tryd.ntmps47
  go_wp2
  go_returns
  exact RV.mk rfl (by go_grown)
theorem eqAppliance_same (nm : ByteArray) (kd : Int) (nd : Int) (cw : Int) (st : Int) (w : World) : Calls Tryd.prog 54 #[.agg #[.string nm, .int .i64 kd, .int .i64 nd, .int .i64 cw, .int .i64 st], .agg #[.string nm, .int .i64 kd, .int .i64 nd, .int .i64 cw, .int .i64 st]] w (RV w (.bool true)) := by
  go_enter Tryd.func54, Tryd.ntmps54
  go_wp2
  go_ret
  exact RV.mk rfl (by go_grown)
def szApp (nm : ByteArray) (left : Int) : Int := (if left - nm.size < 0 then -1 else left - nm.size)
theorem szAppliance_any (nm : ByteArray) (kd : Int) (nd : Int) (cw : Int) (st : Int) (left : Int) (hnm : nm.size ≤ maxLen) (h0 : 0 ≤ left) (h1 : left ≤ 1048576) (w : World) :
    Calls Tryd.prog 39 #[.agg #[.string nm, .int .i64 kd, .int .i64 nd, .int .i64 cw, .int .i64 st], .int .i64 left] w (RV w (.int .i64 (szApp nm left))) := by
  unfold maxLen at hnm
  go_enter Tryd.func39, Tryd.ntmps39
  go_wp2
  all_goals go_ret
  all_goals exact RV.mk (vint (by unfold szApp; (repeat' split) <;> omega)) (by go_grown)
theorem szApp_pos (nm : ByteArray) (left : Int) : szApp nm left < 0 ∨ (szApp nm left = left - nm.size ∧ 0 ≤ left - nm.size) := by
  unfold szApp; (repeat' split) <;> omega
set_option maxHeartbeats 400000 in
theorem szApplianceS_any (A : Option Addr) (c : Nat) (l : List App) (left : Int) (w : World) (hl : l.length ≤ maxLen) (hm : ∀ x ∈ l, x.nm.size ≤ maxLen) (hS : Apps w 0 w.heap.size A l) (h0 : 0 ≤ left) (h1 : left ≤ 1048576) :
    Calls Tryd.prog 21 #[.slice A l.length c, .int .i64 left] w fun e w' => ∃ r : Int, e = .returned (.int .i64 r) ∧ r ≤ left ∧ (0 ≤ r → l.length ≤ 1048576 ∧ ∀ x ∈ l, x.nm.size ≤ 1048576) ∧ Below w.heap.size w w' := by
  unfold maxLen at hl
  go_enter Tryd.func21, Tryd.ntmps21
  by_cases hln : (l.length : Int) ≤ left
  · go_wp2
    go_loopw [1, 5] (fun v i wr => ∃ (k : Nat) (q : Int), k ≤ l.length ∧ i = .int .i64 k ∧ v = .int .i64 q ∧ 0 ≤ q ∧ q ≤ left ∧ (∀ x ∈ l.take k, x.nm.size ≤ 1048576) ∧ Below w.heap.size w wr) (fun _ i _ => l.length - (intOf i).toNat)
    case atStart => exact ⟨0, _, Nat.zero_le _, rfl, rfl, by omega, by omega, by simp, Below.refl _ _⟩
    case round =>
      obtain ⟨k, q, hk, rfl, rfl, hq0, hq1, hx, hB⟩ := hrel
      by_cases hlt : k < l.length
      · obtain ⟨x, hx1, hx2⟩ := get_lt hlt
        obtain ⟨b, off, rfl, _, _, _, hf⟩ := (hS.below hB).at_ hx1
        have c0 : wr.cell? ⟨b, off + k * 5, none⟩ = some (.string x.nm) := (hf 0 _ rfl).1
        have c1 : wr.cell? ⟨b, off + k * 5 + 1, none⟩ = some (.int .i64 x.kd) := (hf 1 _ rfl).1
        have c2 : wr.cell? ⟨b, off + k * 5 + 2, none⟩ = some (.int .i64 x.nd) := (hf 2 _ rfl).1
        have c3 : wr.cell? ⟨b, off + k * 5 + 3, none⟩ = some (.int .i64 x.cw) := (hf 3 _ rfl).1
        have c4 : wr.cell? ⟨b, off + k * 5 + 4, none⟩ = some (.int .i64 x.st) := (hf 4 _ rfl).1
        have HX := Lib.hid hx1
        clear hf hx1
        go_wp2_with fail
        have hsz := hm x hx2
        have hsp := szApp_pos x.nm q
        refine (szAppliance_any _ _ _ _ _ _ hsz (by omega) (by omega) _).mono ?_
        rintro e w1 ⟨rfl, hb⟩
        have hB1 : Below w.heap.size w w1 := Below.on' (by go_grown) hb
        rcases hsp with hq | ⟨hq, hq2⟩
        · go_wp2
          go_ret
          exact ⟨_, rfl, by omega, by omega, hB1⟩
        · have hx' : ∀ x ∈ l.take (k + 1), x.nm.size ≤ 1048576 := by
            intro y hy
            rw [take_snoc HX.out, List.mem_append] at hy
            rcases hy with hy | hy
            · exact hx y hy
            · obtain rfl := List.mem_singleton.1 hy
              omega
          have hq3 : ¬ szApp x.nm q < 0 := by omega
          have hq4 : szApp x.nm q ≤ left := by omega
          clear hq
          go_wp2
          go_roundw
          case rel => exact ⟨k + 1, _, by omega, by go_num, rfl, by omega, by omega, hx', hB1⟩
          case measure => simp [intOf]; omega
      · go_wp2
        go_ret
        exact ⟨_, rfl, hq1, fun _ => ⟨by omega, fun y hy => hx y (by rw [List.take_of_length_le (by omega)]; exact hy)⟩, hB⟩
  · go_wp2
    go_ret
    exact ⟨_, rfl, by omega, by omega, Below.refl _ _⟩
theorem App.info : (Tryd.prog.info? 75).map (fun i => (i.zero, i.size, i.bytes)) = some (some (.agg #[.string ⟨#[]⟩, .int .i64 0, .int .i64 0, .int .i64 0, .int .i64 0]), 5, 48) := by kernel_rfl
set_option maxHeartbeats 800000 in
theorem toApplianceS_any (A : Option Addr) (c : Nat) (l : List App) (w : World) (hl : l.length ≤ 1048576) (hS : Apps w 0 w.heap.size A l) :
    Calls Tryd.prog 24 #[.slice A l.length c] w fun e w' => ∃ g, e = .returned (.slice (some ⟨g, 0, none⟩) l.length l.length) ∧ Apps w' w.heap.size w'.heap.size (some ⟨g, 0, none⟩) l ∧ Below w.heap.size w w' := by
  obtain ⟨i0, hi0, hz0, hz1, hz2⟩ := info_parts App.info
  go_enter Tryd.func24, Tryd.ntmps24
  go_wp2_with (at_make; refine wpList_make_full _ rfl (.tmp 6) (.tmp 6) _ rfl w.heap.size 75 i0 _ 5 Tryd.underlying36 hi0 hz0 hz1 .i64 .i64 _ _ l.length rfl rfl rfl rfl (by rw [hz2]; omega) (by unfold maxLen; omega) (Nat.le_refl _) ?_; intro w1 hown hg)
  have hR : Room w1 w.heap.size 75 (l.length * 5) := Room.of_own hown
  have hB1 : Below w.heap.size w w1 := (Below.refl _ _).grown hg (Nat.le_refl _) (by simp)
  clear hown hg hi0 hz0 hz1 hz2
  go_loopw [4] (fun i wr => ∃ q : Nat, q ≤ l.length ∧ i = .int .i64 q ∧ Room wr w.heap.size 75 (l.length * 5) ∧ Apps wr w.heap.size wr.heap.size (some ⟨w.heap.size, 0, none⟩) (l.take q) ∧ Below w.heap.size w wr) (fun i _ => l.length - (intOf i).toNat)
  case atStart => exact ⟨0, Nat.zero_le _, rfl, hR, by simpa using Sl.nil_, hB1⟩
  case round =>
    obtain ⟨q, hq, rfl, hR, hT, hB⟩ := hrel
    by_cases hlt : q < l.length
    · obtain ⟨x, hx1, hx2⟩ := get_lt hlt
      obtain ⟨b, off, rfl, _, _, _, hf⟩ := (hS.below hB).at_ hx1
      have c0 : wr.cell? ⟨b, off + q * 5, none⟩ = some (.string x.nm) := (hf 0 _ rfl).1
      have c1 : wr.cell? ⟨b, off + q * 5 + 1, none⟩ = some (.int .i64 x.kd) := (hf 1 _ rfl).1
      have c2 : wr.cell? ⟨b, off + q * 5 + 2, none⟩ = some (.int .i64 x.nd) := (hf 2 _ rfl).1
      have c3 : wr.cell? ⟨b, off + q * 5 + 3, none⟩ = some (.int .i64 x.cw) := (hf 3 _ rfl).1
      have c4 : wr.cell? ⟨b, off + q * 5 + 4, none⟩ = some (.int .i64 x.st) := (hf 4 _ rfl).1
      have HX := Lib.hid hx1
      clear hf hx1
      go_wp2_with fail
      refine (toAppliance_any _ _ _ _ _ _).mono ?_
      rintro e w2 ⟨rfl, hb⟩
      have hB2 : Below w.heap.size w w2 := Below.on' (by go_grown) hb
      have hR2 := hR.below hb
      have hT2 := (hT.below hb).mono (Nat.le_refl _) hb.size (Nat.le_refl _)
      have hg2 := hR2.lt
      obtain ⟨u0, d0⟩ := hR2.cell (i := q * 5) (by omega)
      have f0 := hR2.frozen (q * 5)
      obtain ⟨u1, d1⟩ := hR2.cell (i := q * 5 + 1) (by omega)
      have f1 := hR2.frozen (q * 5 + 1)
      obtain ⟨u2, d2⟩ := hR2.cell (i := q * 5 + 2) (by omega)
      have f2 := hR2.frozen (q * 5 + 2)
      obtain ⟨u3, d3⟩ := hR2.cell (i := q * 5 + 3) (by omega)
      have f3 := hR2.frozen (q * 5 + 3)
      obtain ⟨u4, d4⟩ := hR2.cell (i := q * 5 + 4) (by omega)
      have f4 := hR2.frozen (q * 5 + 4)
      clear hb hR hT c0 c1 c2 c3 c4
      go_wp2
      go_roundw
      case rel =>
        have hP := Sl.push_cells hT2 HX.out App.len (Nat.le_refl _) hg2 (Nat.le_refl _) hR2 (by omega)
        refine ⟨q + 1, by omega, by go_num, hR2.setCells w.heap.size (q * 5) (x.cells), ?_, by go_grown⟩
        exact hP.mono (Nat.le_refl _) (by simp [World.setCell]) (Nat.le_refl _)
      case measure => simp [intOf]; omega
    · go_wp2
      go_ret
      refine ⟨w.heap.size, rfl, ?_, hB⟩
      have : l.take q = l := List.take_of_length_le (by omega)
      rw [this] at hT
      exact hT
set_option maxRecDepth 100000 in
set_option maxHeartbeats 800000 in
theorem eqApplianceS_same (A A' : Option Addr) (c c' lo hi lo' hi' : Nat) (l : List App) (w : World) (hl : l.length ≤ 1048576) (hS : Apps w lo hi A l) (hS' : Apps w lo' hi' A' l) :
    Calls Tryd.prog 27 #[.slice A l.length c, .slice A' l.length c'] w (RV w (.bool true)) := by
  go_enter Tryd.func27, Tryd.ntmps27
  go_wp2
  go_loopw [5] (fun i wr => ∃ q : Nat, q ≤ l.length ∧ i = .int .i64 q ∧ Below w.heap.size w wr) (fun i _ => l.length - (intOf i).toNat)
  case atStart => exact ⟨0, Nat.zero_le _, rfl, Below.refl _ _⟩
  case round =>
    obtain ⟨q, hq, rfl, hB⟩ := hrel
    by_cases hlt : q < l.length
    · obtain ⟨x, hx1, hx2⟩ := get_lt hlt
      obtain ⟨b, off, rfl, _, _, _, hf⟩ := (hS.below hB).at_ hx1
      have c0 : wr.cell? ⟨b, off + q * 5, none⟩ = some (.string x.nm) := (hf 0 _ rfl).1
      have c1 : wr.cell? ⟨b, off + q * 5 + 1, none⟩ = some (.int .i64 x.kd) := (hf 1 _ rfl).1
      have c2 : wr.cell? ⟨b, off + q * 5 + 2, none⟩ = some (.int .i64 x.nd) := (hf 2 _ rfl).1
      have c3 : wr.cell? ⟨b, off + q * 5 + 3, none⟩ = some (.int .i64 x.cw) := (hf 3 _ rfl).1
      have c4 : wr.cell? ⟨b, off + q * 5 + 4, none⟩ = some (.int .i64 x.st) := (hf 4 _ rfl).1
      clear hf
      obtain ⟨b', off', rfl, _, _, _, hf⟩ := (hS'.below hB).at_ hx1
      have d0 : wr.cell? ⟨b', off' + q * 5, none⟩ = some (.string x.nm) := (hf 0 _ rfl).1
      have d1 : wr.cell? ⟨b', off' + q * 5 + 1, none⟩ = some (.int .i64 x.kd) := (hf 1 _ rfl).1
      have d2 : wr.cell? ⟨b', off' + q * 5 + 2, none⟩ = some (.int .i64 x.nd) := (hf 2 _ rfl).1
      have d3 : wr.cell? ⟨b', off' + q * 5 + 3, none⟩ = some (.int .i64 x.cw) := (hf 3 _ rfl).1
      have d4 : wr.cell? ⟨b', off' + q * 5 + 4, none⟩ = some (.int .i64 x.st) := (hf 4 _ rfl).1
      clear hf hx1
      have hq0 : (0 : Int) ≤ (q : Int) := by omega
      have hq1 : (q : Int) < (l.length : Int) := by omega
      go_wp2_with fail
      go_still_tail 8, (by kernel_rfl)
      change wpList _ _ _ _ _ wr.drew
      generalize hw2 : wr.drew = w2
      have hB2 : Below w.heap.size w w2 := by rw [← hw2]; exact hB.drew
      clear hw2
      go_wp2_with fail
      refine (eqAppliance_same _ _ _ _ _ _).mono ?_
      rintro e w3 ⟨rfl, hb⟩
      have hB3 : Below w.heap.size w w3 := Below.on' (by go_grown) hb
      go_wp2
      go_roundw
      case rel => exact ⟨q + 1, by omega, by go_num, hB3⟩
      case measure => simp [intOf]; omega
    · go_wp2
      go_ret
      exact RV.mk rfl hB
end Go.Proofs.YtianabfehonliaaDoor

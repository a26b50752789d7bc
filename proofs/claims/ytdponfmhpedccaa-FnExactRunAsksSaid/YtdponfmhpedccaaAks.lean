/- Requests in memory, and the law's own helpers over them: copying, measuring, comparing, marking. No conditions. -/
import Derived.Test.YtdponfmhpedccaaMem
import Derived.StillTailTactics
import Derived.Deep.RegionHeld3
import Derived.OwnWalk
namespace Go.Proofs.Ytdponfmhpedccaa
open Go.RowKit

structure Aks where
  m : Int
  r : Int
  k : Int
def Aks.cells (e : Aks) : List Value := [.int .i64 e.m, .int .i64 e.r, .int .i64 e.k]
theorem Aks.len (e : Aks) : e.cells.length = 3 := rfl
abbrev Akss (w : World) (lo hi : Nat) (A : Option Addr) (l : List Aks) : Prop := Sl Aks.cells 3 w lo hi A l

theorem toAsk_any (m : Int) (r : Int) (k : Int) (w : World) : Calls Try.prog 30 #[.agg #[.int .i64 m, .int .i64 r, .int .i64 k]] w (RV w (.agg #[.int .i64 m, .int .i64 r, .int .i64 k])) := by
  go_enter Try.func30, Try.ntmps30
  go_wp2
  go_returns
  exact RV.mk rfl (by go_grown)
theorem eqAsk_same (m : Int) (r : Int) (k : Int) (w : World) : Calls Try.prog 67 #[.agg #[.int .i64 m, .int .i64 r, .int .i64 k], .agg #[.int .i64 m, .int .i64 r, .int .i64 k]] w (RV w (.bool true)) := by
  go_enter Try.func67, Try.ntmps67
  go_wp2
  go_ret
  exact RV.mk rfl (by go_grown)
theorem szAskS_any (A : Option Addr) (c n : Nat) (left : Int) (w : World) (hl : n ≤ maxLen) (h0 : 0 ≤ left) (h1 : left ≤ 1048576) :
    Calls Try.prog 32 #[.slice A n c, .int .i64 left] w fun e w' => ∃ r : Int, e = .returned (.int .i64 r) ∧ r ≤ left ∧ (0 ≤ r → n ≤ 1048576) ∧ Below w.heap.size w w' := by
  unfold maxLen at hl
  go_enter Try.func32, Try.ntmps32
  by_cases hln : (n : Int) ≤ left
  · go_wp2
    go_ret
    exact ⟨_, rfl, by omega, by omega, Below.refl _ _⟩
  · go_wp2
    go_ret
    exact ⟨_, rfl, by omega, by omega, Below.refl _ _⟩
theorem Aks.info : (Try.prog.info? 45).map (fun i => (i.zero, i.size, i.bytes)) = some (some (.agg #[.int .i64 0, .int .i64 0, .int .i64 0]), 3, 24) := by kernel_rfl
set_option maxHeartbeats 800000 in
theorem toAskS_any (A : Option Addr) (c : Nat) (l : List Aks) (w : World) (hl : l.length ≤ 1048576) (hS : Akss w 0 w.heap.size A l) :
    Calls Try.prog 34 #[.slice A l.length c] w fun e w' => ∃ g, e = .returned (.slice (some ⟨g, 0, none⟩) l.length l.length) ∧ Akss w' w.heap.size w'.heap.size (some ⟨g, 0, none⟩) l ∧ Below w.heap.size w w' := by
  obtain ⟨i0, hi0, hz0, hz1, hz2⟩ := info_parts Aks.info
  go_enter Try.func34, Try.ntmps34
  go_wp2_with (at_make; refine wpList_make_full _ rfl (.tmp 6) (.tmp 6) _ rfl w.heap.size 45 i0 _ 3 Try.underlying53 hi0 hz0 hz1 .i64 .i64 _ _ l.length rfl rfl rfl rfl (by rw [hz2]; omega) (by unfold maxLen; omega) (Nat.le_refl _) ?_; intro w1 hown hg)
  have hR : Room w1 w.heap.size 45 (l.length * 3) := Room.of_own hown
  have hB1 : Below w.heap.size w w1 := (Below.refl _ _).grown hg (Nat.le_refl _) (by simp)
  clear hown hg hi0 hz0 hz1 hz2
  go_loopw [4] (fun i wr => ∃ q : Nat, q ≤ l.length ∧ i = .int .i64 q ∧ Room wr w.heap.size 45 (l.length * 3) ∧ Akss wr w.heap.size wr.heap.size (some ⟨w.heap.size, 0, none⟩) (l.take q) ∧ Below w.heap.size w wr) (fun i _ => l.length - (intOf i).toNat)
  case atStart => exact ⟨0, Nat.zero_le _, rfl, hR, by simpa using Sl.nil_, hB1⟩
  case round =>
    obtain ⟨q, hq, rfl, hR, hT, hB⟩ := hrel
    by_cases hlt : q < l.length
    · obtain ⟨x, hx1, hx2⟩ := get_lt hlt
      obtain ⟨b, off, rfl, _, _, _, hf⟩ := (hS.below hB).at_ hx1
      have c0 : wr.cell? ⟨b, off + q * 3, none⟩ = some (.int .i64 x.m) := (hf 0 _ rfl).1
      have c1 : wr.cell? ⟨b, off + q * 3 + 1, none⟩ = some (.int .i64 x.r) := (hf 1 _ rfl).1
      have c2 : wr.cell? ⟨b, off + q * 3 + 2, none⟩ = some (.int .i64 x.k) := (hf 2 _ rfl).1
      have HX := Lib.hid hx1
      clear hf hx1
      go_wp2_with fail
      refine (toAsk_any _ _ _ _).mono ?_
      rintro e w2 ⟨rfl, hb⟩
      have hB2 : Below w.heap.size w w2 := Below.on' (by go_grown) hb
      have hR2 := hR.below hb
      have hT2 := (hT.below hb).mono (Nat.le_refl _) hb.size (Nat.le_refl _)
      have hg2 := hR2.lt
      obtain ⟨u0, d0⟩ := hR2.cell (i := q * 3) (by omega)
      have f0 := hR2.frozen (q * 3)
      obtain ⟨u1, d1⟩ := hR2.cell (i := q * 3 + 1) (by omega)
      have f1 := hR2.frozen (q * 3 + 1)
      obtain ⟨u2, d2⟩ := hR2.cell (i := q * 3 + 2) (by omega)
      have f2 := hR2.frozen (q * 3 + 2)
      clear hb hR hT c0 c1 c2
      go_wp2
      go_roundw
      case rel =>
        have hP := Sl.push_cells hT2 HX.out Aks.len (Nat.le_refl _) hg2 (Nat.le_refl _) hR2 (by omega)
        refine ⟨q + 1, by omega, by go_num, hR2.setCells w.heap.size (q * 3) (x.cells), ?_, by go_grown⟩
        exact hP.mono (Nat.le_refl _) (by simp [World.setCell]) (Nat.le_refl _)
      case measure => simp [intOf]; omega
    · go_wp2
      go_ret
      refine ⟨w.heap.size, rfl, ?_, hB⟩
      have : l.take q = l := List.take_of_length_le (by omega)
      rw [this] at hT
      exact hT
set_option maxRecDepth 100000 in
set_option maxHeartbeats 800000 in
theorem eqAskS_same (A A' : Option Addr) (c c' lo hi lo' hi' : Nat) (l : List Aks) (w : World) (hl : l.length ≤ 1048576) (hS : Akss w lo hi A l) (hS' : Akss w lo' hi' A' l) :
    Calls Try.prog 37 #[.slice A l.length c, .slice A' l.length c'] w (RV w (.bool true)) := by
  go_enter Try.func37, Try.ntmps37
  go_wp2
  go_loopw [5] (fun i wr => ∃ q : Nat, q ≤ l.length ∧ i = .int .i64 q ∧ Below w.heap.size w wr) (fun i _ => l.length - (intOf i).toNat)
  case atStart => exact ⟨0, Nat.zero_le _, rfl, Below.refl _ _⟩
  case round =>
    obtain ⟨q, hq, rfl, hB⟩ := hrel
    by_cases hlt : q < l.length
    · obtain ⟨x, hx1, hx2⟩ := get_lt hlt
      obtain ⟨b, off, rfl, _, _, _, hf⟩ := (hS.below hB).at_ hx1
      have c0 : wr.cell? ⟨b, off + q * 3, none⟩ = some (.int .i64 x.m) := (hf 0 _ rfl).1
      have c1 : wr.cell? ⟨b, off + q * 3 + 1, none⟩ = some (.int .i64 x.r) := (hf 1 _ rfl).1
      have c2 : wr.cell? ⟨b, off + q * 3 + 2, none⟩ = some (.int .i64 x.k) := (hf 2 _ rfl).1
      clear hf
      obtain ⟨b', off', rfl, _, _, _, hf⟩ := (hS'.below hB).at_ hx1
      have d0 : wr.cell? ⟨b', off' + q * 3, none⟩ = some (.int .i64 x.m) := (hf 0 _ rfl).1
      have d1 : wr.cell? ⟨b', off' + q * 3 + 1, none⟩ = some (.int .i64 x.r) := (hf 1 _ rfl).1
      have d2 : wr.cell? ⟨b', off' + q * 3 + 2, none⟩ = some (.int .i64 x.k) := (hf 2 _ rfl).1
      clear hf hx1
      have hq0 : (0 : Int) ≤ (q : Int) := by omega
      have hq1 : (q : Int) < (l.length : Int) := by omega
      go_wp2_with fail
      go_still_tail 8, (by kernel_rfl)
      change wpList _ _ _ _ _ wr.drew
      generalize hw2 : wr.drew = w2
      have hB2 : Below w.heap.size w w2 := by rw [← hw2]; exact hB.drew
      clear hw2
      go_wp2_with fail
      refine (eqAsk_same _ _ _ _).mono ?_
      rintro e w3 ⟨rfl, hb⟩
      have hB3 : Below w.heap.size w w3 := Below.on' (by go_grown) hb
      go_wp2
      go_roundw
      case rel => exact ⟨q + 1, by omega, by go_num, hB3⟩
      case measure => simp [intOf]; omega
    · go_wp2
      go_ret
      exact RV.mk rfl hB
end Go.Proofs.Ytdponfmhpedccaa

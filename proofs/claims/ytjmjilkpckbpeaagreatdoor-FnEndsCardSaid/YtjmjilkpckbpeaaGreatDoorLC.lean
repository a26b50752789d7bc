/- Several texts of this seat, one behind the other. Channels in memory, and the law's own helpers over them. Conditions: lists and texts of at most 2^20; marks in 1 .. 50000000. Channels that come in as arguments, opened. No conditions. Searching channels. Conditions: at most 2^20 messages. Valid channels, as the reference tests them. Conditions: at most 2^20 messages in each list, texts of at most 2^20. -/
import Derived.Test.YtjmjilkpckbpeaaGreatDoorLB
import Derived.Test.YtjmjilkpckbpeaaGreatDoorLA
import Derived.Test.YtjmjilkpckbpeaaGreatDoorLN
namespace Go.Proofs.YtjmjilkpckbpeaaGreatDoor
open Go.RowKit

def okM (l : List Msg) : Prop := l.length ≤ 1048576 ∧ ∀ x ∈ l, x.f.size ≤ 1048576 ∧ x.b.size ≤ 1048576
theorem cells3 {w : World} {a b c : Value} {T : TypeId} : (w.alloc (.cells #[a, b, c] T)).cell? ⟨w.heap.size, 0, none⟩ = some a ∧ (w.alloc (.cells #[a, b, c] T)).cell? ⟨w.heap.size, 1, none⟩ = some b ∧ (w.alloc (.cells #[a, b, c] T)).cell? ⟨w.heap.size, 2, none⟩ = some c := ⟨by simp, by simp, by simp⟩
/-- A box of three values. -/
structure B3 (b : Nat) (x y z : Value) (X : World) : Prop where
  c0 : X.cell? ⟨b, 0, none⟩ = some x
  c1 : X.cell? ⟨b, 1, none⟩ = some y
  c2 : X.cell? ⟨b, 2, none⟩ = some z
  f0 : X.frozen? ⟨b, 0, none⟩ = false
  f1 : X.frozen? ⟨b, 1, none⟩ = false
  f2 : X.frozen? ⟨b, 2, none⟩ = false
section
variable {b : Nat} {x y z : Value} {X X' : World}
theorem B3.lt (a : B3 b x y z X) : b < X.heap.size := World.block_lt_of_cell? _ _ a.c0
theorem B3.upto {B : Nat} (a : B3 b x y z X) (hB : b < B) (hb : Below B X X') : B3 b x y z X' :=
  have h0 : ∀ o, X'.cell? ⟨b, o, none⟩ = X.cell? ⟨b, o, none⟩ := fun o => hb.cell (p := ⟨b, o, none⟩) hB
  have k0 : ∀ o, X'.frozen? ⟨b, o, none⟩ = X.frozen? ⟨b, o, none⟩ := fun o => hb.frozen (p := ⟨b, o, none⟩) hB
  ⟨(h0 0).trans a.c0, (h0 1).trans a.c1, (h0 2).trans a.c2, (k0 0).trans a.f0, (k0 1).trans a.f1, (k0 2).trans a.f2⟩
theorem B3.below (a : B3 b x y z X) (hb : Below X.heap.size X X') : B3 b x y z X' := a.upto a.lt hb
theorem B3.alloc (a : B3 b x y z X) (o : Obj) : B3 b x y z (X.alloc o) := a.below ((Below.refl _ _).alloc (Nat.le_refl _) o)
theorem B3.new (w : World) (x y z : Value) (T : TypeId) (n : Nat) (hn : n = w.heap.size) : B3 n x y z (w.alloc (.cells #[x, y, z] T)) := by
  subst hn
  exact ⟨by simp, by simp, by simp, World.frozen?_alloc_at _ _ _ _ rfl, World.frozen?_alloc_at _ _ _ _ rfl, World.frozen?_alloc_at _ _ _ _ rfl⟩
theorem B3.off (a : B3 b x y z X) {p : Addr} (hp : p.block ≠ b) (v : Value) : B3 b x y z (X.setCell p v) :=
  ⟨unset a.c0 hp, unset a.c1 hp, unset a.c2 hp, (World.frozen?_setCell ..).trans a.f0, (World.frozen?_setCell ..).trans a.f1, (World.frozen?_setCell ..).trans a.f2⟩
theorem B3.set0 (a : B3 b x y z X) (v : Value) : B3 b v y z (X.setCell ⟨b, 0, none⟩ v) :=
  ⟨World.cell?_setCell_same _ _ _ a.c0, (World.cell?_setCell_other _ _ _ _ (by simp)).trans a.c1, (World.cell?_setCell_other _ _ _ _ (by simp)).trans a.c2, (World.frozen?_setCell ..).trans a.f0, (World.frozen?_setCell ..).trans a.f1, (World.frozen?_setCell ..).trans a.f2⟩
theorem B3.set1 (a : B3 b x y z X) (v : Value) : B3 b x v z (X.setCell ⟨b, 1, none⟩ v) :=
  ⟨(World.cell?_setCell_other _ _ _ _ (by simp)).trans a.c0, World.cell?_setCell_same _ _ _ a.c1, (World.cell?_setCell_other _ _ _ _ (by simp)).trans a.c2, (World.frozen?_setCell ..).trans a.f0, (World.frozen?_setCell ..).trans a.f1, (World.frozen?_setCell ..).trans a.f2⟩
theorem B3.set2 (a : B3 b x y z X) (v : Value) : B3 b x y v (X.setCell ⟨b, 2, none⟩ v) :=
  ⟨(World.cell?_setCell_other _ _ _ _ (by simp)).trans a.c0, (World.cell?_setCell_other _ _ _ _ (by simp)).trans a.c1, World.cell?_setCell_same _ _ _ a.c2, (World.frozen?_setCell ..).trans a.f0, (World.frozen?_setCell ..).trans a.f1, (World.frozen?_setCell ..).trans a.f2⟩
theorem B3.out (a : B3 b x y z X) (v0 v1 v2 : Value) : (X.setCell ⟨b, 0, none⟩ v0).cell? ⟨b, 0, none⟩ = some v0 ∧ ((X.setCell ⟨b, 0, none⟩ v0).setCell ⟨b, 1, none⟩ v1).cell? ⟨b, 1, none⟩ = some v1 ∧ (((X.setCell ⟨b, 0, none⟩ v0).setCell ⟨b, 1, none⟩ v1).setCell ⟨b, 2, none⟩ v2).cell? ⟨b, 2, none⟩ = some v2 :=
  ⟨(a.set0 v0).c0, ((a.set0 v0).set1 v1).c1, (((a.set0 v0).set1 v1).set2 v2).c2⟩
end
theorem Fr.wide {lo hi lo' hi' : Nat} {w w' : World} (h : Fr lo hi w w') (h1 : lo' ≤ lo) (h2 : hi ≤ hi') : Fr lo' hi' w w' := ⟨h.os, h.tape, h.output, h.size, fun b hb hn => h.block b hb (by omega)⟩
end Go.Proofs.YtjmjilkpckbpeaaGreatDoor
namespace Go.Proofs.YtjmjilkpckbpeaaGreatDoor
open Go.ChangeShapes Go.WideShapes Go.ChangeAt Go.RowKit Go.Joins

end Go.Proofs.YtjmjilkpckbpeaaGreatDoor
namespace Go.Proofs.YtjmjilkpckbpeaaGreatDoor
open Go.RowKit

set_option maxHeartbeats 1000000 in
theorem raFind_any (A : Option Addr) (c : Nat) (l : List Msg) (f : ByteArray) (n : Int) (w : World) (hl : l.length ≤ 1048576) (hS : Msgs w 0 w.heap.size A l) :
    Calls Tryz.prog 79 #[.slice A l.length c, .string f, .int .i64 n] w (RV w (.int .i64 (idxG (keyP f n) l 0))) := by
  go_enter Tryz.func79, Tryz.ntmps79
  go_wp2_with fail
  go_loopw [11] (fun i wr => ∃ k : Nat, k ≤ l.length ∧ i = .int .i64 k ∧ Hid (idxG (keyP f n) (l.drop k) k = idxG (keyP f n) l 0) ∧ Below w.heap.size w wr) (fun i _ => l.length - (intOf i).toNat)
  case atStart => exact ⟨0, Nat.zero_le _, rfl, rfl, Below.refl _ _⟩
  case round =>
    obtain ⟨k, hk, rfl, HF, hB⟩ := hrel
    have hz := hB.size
    by_cases hlt : k < l.length
    · obtain ⟨x, hx, _⟩ := get_lt hlt
      have HC := Lib.hid (idxG_step (p := keyP f n) hx)
      obtain ⟨b, off, rfl, _, _, _, hf⟩ := (hS.below hB).at_ hx
      have c0 : wr.cell? ⟨b, off + k * 3, none⟩ = some (.string x.f) := (hf 0 _ rfl).1
      have c1 : wr.cell? ⟨b, off + k * 3 + 1, none⟩ = some (.int .i64 x.n) := (hf 1 _ rfl).1
      have c2 : wr.cell? ⟨b, off + k * 3 + 2, none⟩ = some (.string x.b) := (hf 2 _ rfl).1
      clear hf hx
      go_wp2
      all_goals first
        | (go_ret
           exact RV.mk (by rw [← HF.out, HC.out, if_pos (by first | (simp [keyP, *]; done) | (simp_all [keyP]; done))]; rfl) (by go_grown))
        | (go_roundw
           case rel => exact ⟨k + 1, by omega, by go_num, Lib.hid ((HC.out.trans (if_neg (by first | (simp [keyP, *]; done) | (simp_all [keyP]; done)))).symm.trans HF.out), by go_grown⟩
           case measure => simp [intOf]; omega)
    · have hd : l.drop k = [] := List.drop_of_length_le (by omega)
      have HE : Hid ((-1 : Int) = idxG (keyP f n) l 0) := Lib.hid (by have := HF.out; rw [hd] at this; exact this)
      clear hd HF
      go_wp2
      go_ret
      exact RV.mk (by rw [← HE.out]; rfl) hB
theorem cntM_step {l : List Msg} {k : Nat} {x : Msg} (hx : l[k]? = some x) (f : ByteArray) : (cntM (l.take (k + 1)) f : Int) = cntM (l.take k) f + if x.f.toList = f.toList then 1 else 0 := by
  rw [take_snoc hx, cntM_append]
  by_cases h : x.f.toList = f.toList <;> simp [cntM, h]
theorem cntM_le (l : List Msg) (f : ByteArray) : cntM l f ≤ l.length := List.length_filter_le _ _
set_option maxHeartbeats 1000000 in
theorem raCount_any (A : Option Addr) (c : Nat) (l : List Msg) (f : ByteArray) (w : World) (hl : l.length ≤ 1048576) (hS : Msgs w 0 w.heap.size A l) :
    Calls Tryz.prog 131 #[.slice A l.length c, .string f] w (RV w (.int .i64 (cntM l f))) := by
  go_enter Tryz.func131, Tryz.ntmps131
  go_wp2_with fail
  go_loopw [5, 10] (fun o i wr => ∃ (k : Nat) (v : Int), k ≤ l.length ∧ i = .int .i64 k ∧ o = .int .i64 v ∧ 0 ≤ v ∧ v ≤ k ∧ Hid (v = cntM (l.take k) f) ∧ Below w.heap.size w wr) (fun _ i _ => l.length - (intOf i).toNat)
  case atStart => exact ⟨0, 0, Nat.zero_le _, rfl, rfl, by omega, by omega, Lib.hid (by simp [cntM]), Below.refl _ _⟩
  case round =>
    obtain ⟨k, v, hk, rfl, rfl, hv0, hv1, HF, hB⟩ := hrel
    have hz := hB.size
    by_cases hlt : k < l.length
    · obtain ⟨x, hx, _⟩ := get_lt hlt
      have HC := Lib.hid (cntM_step hx f)
      obtain ⟨b, off, rfl, _, _, _, hf⟩ := (hS.below hB).at_ hx
      have c0 : wr.cell? ⟨b, off + k * 3, none⟩ = some (.string x.f) := (hf 0 _ rfl).1
      have c1 : wr.cell? ⟨b, off + k * 3 + 1, none⟩ = some (.int .i64 x.n) := (hf 1 _ rfl).1
      have c2 : wr.cell? ⟨b, off + k * 3 + 2, none⟩ = some (.string x.b) := (hf 2 _ rfl).1
      clear hf hx
      by_cases q : x.f.toList = f.toList
      · have HD : Hid (v + 1 = cntM (l.take (k + 1)) f) := Lib.hid (by rw [HC.out, ← HF.out, if_pos q])
        clear HC HF
        go_wp2
        go_roundw
        case rel => exact ⟨k + 1, v + 1, by omega, by go_num, by go_num, by omega, by omega, HD, by go_grown⟩
        case measure => simp [intOf]; omega
      · have HD : Hid (v = cntM (l.take (k + 1)) f) := Lib.hid (by rw [HC.out, ← HF.out, if_neg q]; simp)
        have qb : (x.f.toList == f.toList) = false := by simpa using q
        clear HC HF q
        go_wp2
        go_roundw
        case rel => exact ⟨k + 1, v, by omega, by go_num, by go_num, by omega, by omega, HD, by go_grown⟩
        case measure => simp [intOf]; omega
    · obtain rfl : k = l.length := by omega
      rw [List.take_length] at HF
      go_wp2
      go_ret
      exact RV.mk (by rw [HF.out]; rfl) hB
theorem Sl.pre {α : Type} {E : α → List Value} {k : Nat} {w : World} {lo hi : Nat} {A : Option Addr} {l : List α} (h : Sl E k w lo hi A l) (n : Nat) : Sl E k w lo hi A (l.take n) := fun hn => by
  obtain ⟨b, off, e, c, d, g, f⟩ := h (by rintro rfl; simp at hn)
  refine ⟨b, off, e, c, d, g, fun i x hx => f i x ?_⟩
  rw [List.getElem?_take] at hx
  split at hx
  · exact hx
  · cases hx
theorem someAt_eq {l all : List Msg} {k : Nat} {x : Msg} (hx : l[k]? = some x) : someAt l all k = (memM all x && !memM (l.take k) x) := by simp [someAt, hx]
set_option maxRecDepth 100000 in
set_option maxHeartbeats 4000000 in
theorem areSome_any (A : Option Addr) (c : Nat) (l : List Msg) (A2 : Option Addr) (cc : Nat) (all : List Msg) (w : World) (hl : l.length ≤ 1048576) (hc : l.length ≤ c) (hS : Msgs w 0 w.heap.size A l) (hl2 : all.length ≤ 1048576) (hS2 : Msgs w 0 w.heap.size A2 all) :
    Calls Tryz.prog 130 #[.slice A l.length c, .slice A2 all.length cc] w (RV w (.bool (someB l all))) := by
  go_enter Tryz.func130, Tryz.ntmps130
  go_wp2_with fail
  go_loopw [9] (fun i wr => ∃ k : Nat, k ≤ l.length ∧ i = .int .i64 k ∧ Hid (∀ i, i < k → someAt l all i = true) ∧ Below w.heap.size w wr) (fun i _ => l.length - (intOf i).toNat)
  case atStart => exact ⟨0, Nat.zero_le _, rfl, Lib.hid (fun i hi => absurd hi (Nat.not_lt_zero i)), Below.refl _ _⟩
  case round =>
    obtain ⟨k, hk, rfl, HX, hB⟩ := hrel
    have hz := hB.size
    by_cases hlt : k < l.length
    · obtain ⟨x, hx, _⟩ := get_lt hlt
      have HE := Lib.hid (someAt_eq (all := all) hx)
      have hSr := (hS.below hB)
      obtain ⟨b, off, rfl, _, _, _, hf⟩ := hSr.at_ hx
      have c0 : wr.cell? ⟨b, off + k * 3, none⟩ = some (.string x.f) := (hf 0 _ rfl).1
      have c1 : wr.cell? ⟨b, off + k * 3 + 1, none⟩ = some (.int .i64 x.n) := (hf 1 _ rfl).1
      have c2 : wr.cell? ⟨b, off + k * 3 + 2, none⟩ = some (.string x.b) := (hf 2 _ rfl).1
      clear hf hx
      have hS1 : Msgs wr 0 w.heap.size (some ⟨b, off, none⟩) (l.take k) := hSr.pre k
      have hbox : ∀ W, Below (wr.alloc (.cells #[.string x.f, .int .i64 x.n, .string x.b] 33)).heap.size (wr.alloc (.cells #[.string x.f, .int .i64 x.n, .string x.b] 33)) W → W.cell? ⟨wr.heap.size, 0, none⟩ = some (.string x.f) ∧ W.cell? ⟨wr.heap.size, 1, none⟩ = some (.int .i64 x.n) ∧ W.cell? ⟨wr.heap.size, 2, none⟩ = some (.string x.b) := fun W hb =>
        have H := fun t u hu => keep hb (new_cells (E := Msg.cells) wr 33 x _ rfl t u hu)
        ⟨H 0 _ rfl, H 1 _ rfl, H 2 _ rfl⟩
      have HM : ∀ W, Below (wr.alloc (.cells #[.string x.f, .int .i64 x.n, .string x.b] 33)).heap.size (wr.alloc (.cells #[.string x.f, .int .i64 x.n, .string x.b] 33)) W → Calls Tryz.prog 78 #[.slice A2 all.length cc, .agg #[.string x.f, .int .i64 x.n, .string x.b]] W (RV W (.bool (memM all x))) := fun W hb => Msg.Contains_any A2 cc all x W hl2 (((hS2.below hB).alloc _).below hb).all
      have HN : ∀ W, Below (wr.alloc (.cells #[.string x.f, .int .i64 x.n, .string x.b] 33)).heap.size (wr.alloc (.cells #[.string x.f, .int .i64 x.n, .string x.b] 33)) W → Calls Tryz.prog 78 #[.slice (some ⟨b, off, none⟩) k c, .agg #[.string x.f, .int .i64 x.n, .string x.b]] W (RV W (.bool (memM (l.take k) x))) := fun W hb => by
        have := Msg.Contains_any (some ⟨b, off, none⟩) c (l.take k) x W (by rw [List.length_take]; omega) ((hS1.alloc _).below hb).all
        rw [List.length_take, Nat.min_eq_left (by omega)] at this
        exact this
      clear hSr hS1
      have hkc : k ≤ c := by omega
      go_wp2_with fail
      generalize hV : wr.alloc (.cells #[.string x.f, .int .i64 x.n, .string x.b] 33) = V at hbox HM HN ⊢
      have hBV : Below w.heap.size w V := by rw [← hV]; go_grown
      clear c0 c1 c2
      by_cases g1 : memM all x = true
      rotate_left
      · have g1 : memM all x = false := by simpa using g1
        rw [g1] at HM
        have HF : Hid (someB l all = false) := Lib.hid (by rw [someB, upto_no hlt (by rw [HE.out, g1]; rfl)])
        clear HE HX g1
        refine wp_region_quiet (C := fun w' => Below V.heap.size V w') (by kernel_rfl) (by kernel_rfl) ((Below.refl _ _).drew) ?_
        dsimp only [Array.toList]
        iterate 11
          with_reducible refine wpQuiet_step (fun K hK => ?_)
          go_simp
          first
            | (refine hK _ ?_; clear hK K)
            | (apply Exists.intro
               refine ⟨fun w' hw' => ?_, hK _ ?_⟩
               · obtain ⟨z0, z1, z2⟩ := hbox w' hw'
                 have M1 := HM w' hw'
                 have M2 := HN w' hw'
                 go_simp
                 first
                   | rfl
                   | (refine M1.mono ?_; rintro e w1 ⟨rfl, hb⟩; exact ⟨rfl, hw'.trans (hb.mono hw'.size)⟩)
                   | (refine M2.mono ?_; rintro e w1 ⟨rfl, hb⟩; exact ⟨rfl, hw'.trans (hb.mono hw'.size)⟩)
               clear hK K)
        refine wpQuiet_nil ?_
        intro W2 hW2
        have hB2 : Below w.heap.size w W2 := Below.on' hBV hW2
        clear hbox HM HN hW2
        go_wp2
        go_ret
        exact RV.mk (by rw [HF.out]; rfl) hB2
      by_cases g2 : memM (l.take k) x = true
      · rw [g1] at HM
        rw [g2] at HN
        have HF : Hid (someB l all = false) := Lib.hid (by rw [someB, upto_no hlt (by rw [HE.out, g1, g2]; rfl)])
        clear HE HX g1 g2
        refine wp_region_quiet (C := fun w' => Below V.heap.size V w') (by kernel_rfl) (by kernel_rfl) ((Below.refl _ _).drew) ?_
        dsimp only [Array.toList]
        iterate 11
          with_reducible refine wpQuiet_step (fun K hK => ?_)
          go_simp
          first
            | (refine hK _ ?_; clear hK K)
            | (apply Exists.intro
               refine ⟨fun w' hw' => ?_, hK _ ?_⟩
               · obtain ⟨z0, z1, z2⟩ := hbox w' hw'
                 have M1 := HM w' hw'
                 have M2 := HN w' hw'
                 go_simp
                 first
                   | rfl
                   | (refine M1.mono ?_; rintro e w1 ⟨rfl, hb⟩; exact ⟨rfl, hw'.trans (hb.mono hw'.size)⟩)
                   | (refine M2.mono ?_; rintro e w1 ⟨rfl, hb⟩; exact ⟨rfl, hw'.trans (hb.mono hw'.size)⟩)
               clear hK K)
        refine wpQuiet_nil ?_
        intro W2 hW2
        have hB2 : Below w.heap.size w W2 := Below.on' hBV hW2
        clear hbox HM HN hW2
        go_wp2
        go_ret
        exact RV.mk (by rw [HF.out]; rfl) hB2
      · have g2 : memM (l.take k) x = false := by simpa using g2
        rw [g1] at HM
        rw [g2] at HN
        have HX' := Lib.hid (upto_step HX.out (by rw [HE.out, g1, g2]; rfl))
        clear HE HX g1 g2
        refine wp_region_quiet (C := fun w' => Below V.heap.size V w') (by kernel_rfl) (by kernel_rfl) ((Below.refl _ _).drew) ?_
        dsimp only [Array.toList]
        iterate 11
          with_reducible refine wpQuiet_step (fun K hK => ?_)
          go_simp
          first
            | (refine hK _ ?_; clear hK K)
            | (apply Exists.intro
               refine ⟨fun w' hw' => ?_, hK _ ?_⟩
               · obtain ⟨z0, z1, z2⟩ := hbox w' hw'
                 have M1 := HM w' hw'
                 have M2 := HN w' hw'
                 go_simp
                 first
                   | rfl
                   | (refine M1.mono ?_; rintro e w1 ⟨rfl, hb⟩; exact ⟨rfl, hw'.trans (hb.mono hw'.size)⟩)
                   | (refine M2.mono ?_; rintro e w1 ⟨rfl, hb⟩; exact ⟨rfl, hw'.trans (hb.mono hw'.size)⟩)
               clear hK K)
        refine wpQuiet_nil ?_
        intro W2 hW2
        have hB2 : Below w.heap.size w W2 := Below.on' hBV hW2
        clear hbox HM HN hW2
        go_wp2
        go_roundw
        case rel => exact ⟨k + 1, by omega, by go_num, HX', hB2⟩
        case measure => simp [intOf]; omega
    · obtain rfl : k = l.length := by omega
      have HE : Hid (someB l all = true) := Lib.hid (upto_all HX.out)
      clear HX
      go_wp2
      go_ret
      exact RV.mk (by rw [HE.out]; rfl) hB
theorem Msg.neql (x y : Msg) (w : World) : (binOp .neq 33 (.agg #[.string x.f, .int .i64 x.n, .string x.b]) (.agg #[.string y.f, .int .i64 y.n, .string y.b])).run Tryz.prog w = .ok (.bool (!Msg.eqB x y)) w := by
  go_simp
  by_cases q0 : x.f.toList = y.f.toList <;> by_cases q1 : x.n = y.n <;> by_cases q2 : x.b.toList = y.b.toList <;> simp [Msg.eqB, q0, q1, q2]
theorem withAt_none {l all : List Msg} {k : Nat} {x : Msg} (hx : l[k]? = some x) (hf : all.find? (keyP x.f x.n) = none) : withAt l all k = false := by simp [withAt, hx, hf]
theorem withAt_some {l all : List Msg} {k : Nat} {x y : Msg} (hx : l[k]? = some x) (hf : all.find? (keyP x.f x.n) = some y) : withAt l all k = (Msg.eqB y x && !(l.take k).any (keyP x.f x.n)) := by simp [withAt, hx, hf]
set_option maxRecDepth 100000 in
set_option maxHeartbeats 8000000 in
theorem raWithin_any (A : Option Addr) (c : Nat) (l : List Msg) (A2 : Option Addr) (cc : Nat) (all : List Msg) (w : World) (hl : l.length ≤ 1048576) (hc : l.length ≤ c) (hS : Msgs w 0 w.heap.size A l) (hl2 : all.length ≤ 1048576) (hS2 : Msgs w 0 w.heap.size A2 all) :
    Calls Tryz.prog 132 #[.slice A l.length c, .slice A2 all.length cc] w (RV w (.bool (withB l all))) := by
  go_enter Tryz.func132, Tryz.ntmps132
  go_wp2_with fail
  go_loopw [10] (fun i wr => ∃ k : Nat, k ≤ l.length ∧ i = .int .i64 k ∧ Hid (∀ i, i < k → withAt l all i = true) ∧ Below w.heap.size w wr) (fun i _ => l.length - (intOf i).toNat)
  case atStart => exact ⟨0, Nat.zero_le _, rfl, Lib.hid (fun i hi => absurd hi (Nat.not_lt_zero i)), Below.refl _ _⟩
  case round =>
    obtain ⟨k, hk, rfl, HX, hB⟩ := hrel
    have hz := hB.size
    by_cases hlt : k < l.length
    · obtain ⟨x, hx, _⟩ := get_lt hlt
      have Hx := Lib.hid hx
      have hSr := (hS.below hB)
      obtain ⟨b, off, rfl, _, _, _, hf⟩ := hSr.at_ hx
      have c0 : wr.cell? ⟨b, off + k * 3, none⟩ = some (.string x.f) := (hf 0 _ rfl).1
      have c1 : wr.cell? ⟨b, off + k * 3 + 1, none⟩ = some (.int .i64 x.n) := (hf 1 _ rfl).1
      have c2 : wr.cell? ⟨b, off + k * 3 + 2, none⟩ = some (.string x.b) := (hf 2 _ rfl).1
      clear hf hx
      have hS1 : Msgs wr 0 w.heap.size (some ⟨b, off, none⟩) (l.take k) := hSr.pre k
      have hbox0 : ∀ W, Below (wr.alloc (.cells #[.string x.f, .int .i64 x.n, .string x.b] 33)).heap.size (wr.alloc (.cells #[.string x.f, .int .i64 x.n, .string x.b] 33)) W → W.cell? ⟨wr.heap.size, 0, none⟩ = some (.string x.f) ∧ W.cell? ⟨wr.heap.size, 1, none⟩ = some (.int .i64 x.n) ∧ W.cell? ⟨wr.heap.size, 2, none⟩ = some (.string x.b) := fun W hb =>
        have H := fun t u hu => keep hb (new_cells (E := Msg.cells) wr 33 x _ rfl t u hu)
        ⟨H 0 _ rfl, H 1 _ rfl, H 2 _ rfl⟩
      go_wp2_with fail
      refine (raFind_any A2 cc all x.f x.n _ hl2 ((hS2.below hB).alloc _).all).mono ?_
      rintro e V ⟨rfl, hb⟩
      have hVr : Below wr.heap.size wr V := Below.on' (by go_grown) hb
      have hBV : Below w.heap.size w V := Below.on' hB hVr
      have hbox := fun W (h : Below V.heap.size V W) => hbox0 W (hb.trans (h.mono hb.size))
      have HN0 : ∀ W, Below V.heap.size V W → Calls Tryz.prog 79 #[.slice (some ⟨b, off, none⟩) k c, .string x.f, .int .i64 x.n] W (RV W (.int .i64 (idxG (keyP x.f x.n) (l.take k) 0))) := fun W hb => by
        have := raFind_any (some ⟨b, off, none⟩) c (l.take k) x.f x.n W (by rw [List.length_take]; omega) ((hS1.below hVr).below hb).all
        rw [List.length_take, Nat.min_eq_left (by omega)] at this
        exact this
      have hS2V := hS2.below hBV
      have hkc : k ≤ c := by omega
      clear hSr hS1 hb hVr hbox0 c0 c1 c2
      rcases find_idx (keyP x.f x.n) all 0 with ⟨e1, hf⟩ | ⟨j, y, hj, e1, hf, _⟩
      · have HF : Hid (withB l all = false) := Lib.hid (by rw [withB, upto_no hlt (withAt_none Hx.out hf)])
        rw [e1]
        clear e1 hf Hx HX
        have HN := HN0
        have hcls := hbox
        clear HN0 hbox
        go_wp2_with fail
        refine wp_region_quiet (C := fun w' => Below V.heap.size V w') (by kernel_rfl) (by kernel_rfl) ((Below.refl _ _).drew) ?_
        dsimp only [Array.toList]
        iterate 21
          with_reducible refine wpQuiet_step (fun K hK => ?_)
          go_simp
          first
            | (refine hK _ ?_; clear hK K)
            | (apply Exists.intro
               refine ⟨fun w' hw' => ?_, hK _ ?_⟩
               · obtain ⟨z0, z1, z2⟩ := hcls w' hw'
                 have M2 := HN w' hw'
                 have hqq : True := trivial
                 first
                   | (go_simp; rfl)
                   | (simp only [Sem.run] at hqq; exact hqq)
                   | (go_simp; refine M2.mono ?_; rintro e w1 ⟨rfl, hb⟩; exact ⟨rfl, hw'.trans (hb.mono hw'.size)⟩)
               clear hK K)
        refine wpQuiet_nil ?_
        intro W2 hW2
        have hB2 : Below w.heap.size w W2 := Below.on' hBV hW2
        clear hcls HN hW2
        go_wp2
        go_ret
        exact RV.mk (by rw [HF.out]; rfl) hB2
      · have HE := Lib.hid (withAt_some Hx.out hf)
        rw [e1]
        have hjl : j < all.length := (List.getElem?_eq_some_iff.1 hj).1
        obtain ⟨b2, off2, rfl, _, _, _, hg⟩ := hS2V.at_ hj
        have d0 : V.cell? ⟨b2, off2 + j * 3, none⟩ = some (.string y.f) := (hg 0 _ rfl).1
        have d1 : V.cell? ⟨b2, off2 + j * 3 + 1, none⟩ = some (.int .i64 y.n) := (hg 1 _ rfl).1
        have d2 : V.cell? ⟨b2, off2 + j * 3 + 2, none⟩ = some (.string y.b) := (hg 2 _ rfl).1
        rw [Nat.zero_add]
        have hcls := fun W (h : Below V.heap.size V W) => And.intro (hbox W h) (And.intro (keep h d0) (And.intro (keep h d1) (keep h d2)))
        have heq := Msg.neql y x
        clear e1 hf Hx hj hg hbox d0 d1 d2 hS2V
        by_cases g1 : Msg.eqB y x = true
        rotate_left
        · have g1 : Msg.eqB y x = false := by simpa using g1
          have HF : Hid (withB l all = false) := Lib.hid (by rw [withB, upto_no hlt (by rw [HE.out, g1]; rfl)])
          rw [g1] at heq
          have HN := HN0
          clear HE HX g1 HN0
          go_wp2_with fail
          refine wp_region_quiet (C := fun w' => Below V.heap.size V w') (by kernel_rfl) (by kernel_rfl) ((Below.refl _ _).drew) ?_
          dsimp only [Array.toList]
          iterate 21
            with_reducible refine wpQuiet_step (fun K hK => ?_)
            go_simp
            first
              | (refine hK _ ?_; clear hK K)
              | (apply Exists.intro
                 refine ⟨fun w' hw' => ?_, hK _ ?_⟩
                 · obtain ⟨⟨z0, z1, z2⟩, z3, z4, z5⟩ := hcls w' hw'
                   have M2 := HN w' hw'
                   have hqq := heq w'
                   first
                     | (go_simp; rfl)
                     | (simp only [Sem.run] at hqq; exact hqq)
                     | (go_simp; refine M2.mono ?_; rintro e w1 ⟨rfl, hb⟩; exact ⟨rfl, hw'.trans (hb.mono hw'.size)⟩)
                 clear hK K)
          refine wpQuiet_nil ?_
          intro W2 hW2
          have hB2 : Below w.heap.size w W2 := Below.on' hBV hW2
          clear hcls HN hW2 heq
          go_wp2
          go_ret
          exact RV.mk (by rw [HF.out]; rfl) hB2
        rcases find_idx (keyP x.f x.n) (l.take k) 0 with ⟨e2, hf2⟩ | ⟨j2, y2, hj2, e2, hf2, hp2⟩
        · have HX' := Lib.hid (upto_step HX.out (by
            rw [HE.out, g1]
            have : (l.take k).any (keyP x.f x.n) = false := by rw [← idxG_any, e2]; rfl
            rw [this]; rfl))
          rw [g1] at heq
          rw [e2] at HN0
          have HN := HN0
          clear HE HX g1 HN0 e2 hf2
          go_wp2_with fail
          refine wp_region_quiet (C := fun w' => Below V.heap.size V w') (by kernel_rfl) (by kernel_rfl) ((Below.refl _ _).drew) ?_
          dsimp only [Array.toList]
          iterate 21
            with_reducible refine wpQuiet_step (fun K hK => ?_)
            go_simp
            first
              | (refine hK _ ?_; clear hK K)
              | (apply Exists.intro
                 refine ⟨fun w' hw' => ?_, hK _ ?_⟩
                 · obtain ⟨⟨z0, z1, z2⟩, z3, z4, z5⟩ := hcls w' hw'
                   have M2 := HN w' hw'
                   have hqq := heq w'
                   first
                     | (go_simp; rfl)
                     | (simp only [Sem.run] at hqq; exact hqq)
                     | (go_simp; refine M2.mono ?_; rintro e w1 ⟨rfl, hb⟩; exact ⟨rfl, hw'.trans (hb.mono hw'.size)⟩)
                 clear hK K)
          refine wpQuiet_nil ?_
          intro W2 hW2
          have hB2 : Below w.heap.size w W2 := Below.on' hBV hW2
          clear hcls HN hW2 heq
          go_wp2
          go_roundw
          case rel => exact ⟨k + 1, by omega, by go_num, HX', hB2⟩
          case measure => simp [intOf]; omega
        · have HF : Hid (withB l all = false) := Lib.hid (by
            rw [withB, upto_no hlt]
            rw [HE.out, g1]
            have : (l.take k).any (keyP x.f x.n) = true := List.any_eq_true.2 ⟨y2, List.mem_of_getElem? hj2, hp2⟩
            rw [this]; rfl)
          rw [g1] at heq
          rw [e2, Nat.zero_add] at HN0
          have HN := HN0
          clear HE HX g1 HN0 e2 hf2 hj2 hp2
          go_wp2_with fail
          refine wp_region_quiet (C := fun w' => Below V.heap.size V w') (by kernel_rfl) (by kernel_rfl) ((Below.refl _ _).drew) ?_
          dsimp only [Array.toList]
          iterate 21
            with_reducible refine wpQuiet_step (fun K hK => ?_)
            go_simp
            first
              | (refine hK _ ?_; clear hK K)
              | (apply Exists.intro
                 refine ⟨fun w' hw' => ?_, hK _ ?_⟩
                 · obtain ⟨⟨z0, z1, z2⟩, z3, z4, z5⟩ := hcls w' hw'
                   have M2 := HN w' hw'
                   have hqq := heq w'
                   first
                     | (go_simp; rfl)
                     | (simp only [Sem.run] at hqq; exact hqq)
                     | (go_simp; refine M2.mono ?_; rintro e w1 ⟨rfl, hb⟩; exact ⟨rfl, hw'.trans (hb.mono hw'.size)⟩)
                 clear hK K)
          refine wpQuiet_nil ?_
          intro W2 hW2
          have hB2 : Below w.heap.size w W2 := Below.on' hBV hW2
          clear hcls HN hW2 heq
          go_wp2
          go_ret
          exact RV.mk (by rw [HF.out]; rfl) hB2
    · obtain rfl : k = l.length := by omega
      have HE : Hid (withB l all = true) := Lib.hid (upto_all HX.out)
      clear HX
      go_wp2
      go_ret
      exact RV.mk (by rw [HE.out]; rfl) hB
end Go.Proofs.YtjmjilkpckbpeaaGreatDoor
namespace Go.Proofs.YtjmjilkpckbpeaaGreatDoor
open Go.RowKit

theorem sentAt_eq {l : List Msg} {k : Nat} {xf xb : ByteArray} {xn : Int} (hx : l[k]? = some ⟨xf, xn, xb⟩) : sentAt l k = (msgB ⟨xf, xn, xb⟩ && decide (xn = (cntM (l.take k) xf : Int) + 1)) := by simp [sentAt, hx]
set_option maxRecDepth 100000 in
set_option maxHeartbeats 8000000 in
theorem raGood_any (As : Option Addr) (cs : Nat) (s : List Msg) (Ar : Option Addr) (cr : Nat) (r : List Msg) (Ah : Option Addr) (ch : Nat) (h : List Msg) (w : World) (hls : s.length ≤ 1048576) (hms : ∀ y ∈ s, y.f.size ≤ 1048576 ∧ y.b.size ≤ 1048576) (hSs : Msgs w 0 w.heap.size As s) (hcs : s.length ≤ cs) (hlr : r.length ≤ 1048576) (_hmr : ∀ y ∈ r, y.f.size ≤ 1048576 ∧ y.b.size ≤ 1048576) (hSr : Msgs w 0 w.heap.size Ar r) (hcr : r.length ≤ cr) (hlh : h.length ≤ 1048576) (_hmh : ∀ y ∈ h, y.f.size ≤ 1048576 ∧ y.b.size ≤ 1048576) (hSh : Msgs w 0 w.heap.size Ah h) (hch : h.length ≤ ch) :
    Calls Tryz.prog 68 #[.agg #[.slice As s.length cs, .slice Ar r.length cr, .slice Ah h.length ch]] w (RV w (.bool (chanB s r h))) := by
  rw [← chan_eq]
  have hX0 := B3.new w (.slice As s.length cs) (.slice Ar r.length cr) (.slice Ah h.length ch) 26 _ rfl
  obtain ⟨b0, b1, b2, _, _, _⟩ := id hX0
  go_enter Tryz.func68, Tryz.ntmps68
  go_wp2_with fail
  go_loopw [8] (fun i wr => ∃ k : Nat, k ≤ s.length ∧ i = .int .i64 k ∧ Hid (∀ i, i < k → sentAt s i = true) ∧ B3 w.heap.size (.slice As s.length cs) (.slice Ar r.length cr) (.slice Ah h.length ch) wr ∧ Below w.heap.size w wr) (fun i _ => s.length - (intOf i).toNat)
  case atStart => exact ⟨0, Nat.zero_le _, rfl, Lib.hid (fun i hi => absurd hi (Nat.not_lt_zero i)), hX0, by go_grown⟩
  case round =>
    obtain ⟨k, hk, rfl, HX, hX, hB⟩ := hrel
    clear hX0 b0 b1 b2
    have hz := hB.size
    have hlt0 := hX.lt
    by_cases hlt : k < s.length
    · obtain ⟨⟨xf, xn, xb⟩, hx, hxM⟩ := get_lt hlt
      have HE := Lib.hid (sentAt_eq hx)
      obtain ⟨hxf, hxb⟩ := hms _ hxM
      have hSr := (hSs.below hB)
      obtain ⟨b, off, rfl, _, _, _, hf⟩ := hSr.at_ hx
      have c0 : wr.cell? ⟨b, off + k * 3, none⟩ = some (.string xf) := (hf 0 _ rfl).1
      have c1 : wr.cell? ⟨b, off + k * 3 + 1, none⟩ = some (.int .i64 xn) := (hf 1 _ rfl).1
      have c2 : wr.cell? ⟨b, off + k * 3 + 2, none⟩ = some (.string xb) := (hf 2 _ rfl).1
      have hS1 : Msgs wr 0 w.heap.size (some ⟨b, off, none⟩) (s.take k) := hSr.pre k
      obtain ⟨x0, x1, x2, _, _, _⟩ := id hX
      have hXV := hX.alloc (.cells #[.string xf, .int .i64 xn, .string xb] 33)
      have hcls : ∀ W, Below (wr.alloc (.cells #[.string xf, .int .i64 xn, .string xb] 33)).heap.size (wr.alloc (.cells #[.string xf, .int .i64 xn, .string xb] 33)) W → W.cell? ⟨wr.heap.size, 0, none⟩ = some (.string xf) ∧ W.cell? ⟨wr.heap.size, 1, none⟩ = some (.int .i64 xn) ∧ W.cell? ⟨wr.heap.size, 2, none⟩ = some (.string xb) ∧ W.cell? ⟨w.heap.size, 0, none⟩ = some (.slice (some ⟨b, off, none⟩) s.length cs) := fun W hb =>
        have H := fun t u hu => keep hb (new_cells (E := Msg.cells) wr 33 ⟨xf, xn, xb⟩ _ rfl t u hu)
        ⟨H 0 _ rfl, H 1 _ rfl, H 2 _ rfl, (hXV.below hb).c0⟩
      have HM : ∀ W, Calls Tryz.prog 86 #[.agg #[.string xf, .int .i64 xn, .string xb]] W (RV W (.bool (msgB ⟨xf, xn, xb⟩))) := fun W => raOne_any ⟨xf, xn, xb⟩ W hxf hxb
      have HN : ∀ W, Below (wr.alloc (.cells #[.string xf, .int .i64 xn, .string xb] 33)).heap.size (wr.alloc (.cells #[.string xf, .int .i64 xn, .string xb] 33)) W → Calls Tryz.prog 131 #[.slice (some ⟨b, off, none⟩) k cs, .string xf] W (RV W (.int .i64 (cntM (s.take k) xf))) := fun W hb => by
        have := raCount_any (some ⟨b, off, none⟩) cs (s.take k) xf W (by rw [List.length_take]; omega) ((hS1.alloc _).below hb).all
        rw [List.length_take, Nat.min_eq_left (by omega)] at this
        exact this
      have hcv : cntM (s.take k) xf ≤ 1048576 := by have := cntM_le (s.take k) xf; rw [List.length_take] at this; omega
      generalize (cntM (s.take k) xf) = v at HE HN hcv
      have hw : IntKind.i64.wrap ((v : Int) + 1) = (v : Int) + 1 := IntWalk.i64_in _ (by omega)
      have hkc : k ≤ cs := by omega
      clear hf hx hxM hSr hS1 x0 x1 x2
      go_wp2_with fail
      generalize hV : wr.alloc (.cells #[.string xf, .int .i64 xn, .string xb] 33) = V at hcls HN hXV ⊢
      have hBV : Below w.heap.size w V := by rw [← hV]; go_grown
      clear c0 c1 c2
      by_cases g1 : msgB ⟨xf, xn, xb⟩ = true
      rotate_left
      · have g1 : msgB ⟨xf, xn, xb⟩ = false := by simpa using g1
        rw [g1] at HM
        have HF : Hid (chanW s r h = false) := Lib.hid (by rw [chanW, sentB, upto_no hlt (by rw [HE.out, g1]; rfl)]; rfl)
        clear HE HX g1
        go_wp2_with fail
        refine wp_region_quiet (C := fun w' => Below V.heap.size V w') (by kernel_rfl) (by kernel_rfl) ((Below.refl _ _).drew) ?_
        dsimp only [Array.toList]
        iterate 16
          with_reducible refine wpQuiet_step (fun K hK => ?_)
          go_simp
          first
            | (refine hK _ ?_; clear hK K)
            | (apply Exists.intro
               refine ⟨fun w' hw' => ?_, hK _ ?_⟩
               · obtain ⟨z0, z1, z2, z3⟩ := hcls w' hw'
                 have M1 := HM w'
                 have M2 := HN w' hw'
                 go_simp
                 first
                   | rfl
                   | (refine M1.mono ?_; rintro e w1 ⟨rfl, hb⟩; exact ⟨rfl, hw'.trans (hb.mono hw'.size)⟩)
                   | (refine M2.mono ?_; rintro e w1 ⟨rfl, hb⟩; exact ⟨rfl, hw'.trans (hb.mono hw'.size)⟩)
               clear hK K)
        refine wpQuiet_nil ?_
        intro W2 hW2
        have hB2 : Below w.heap.size w W2 := Below.on' hBV hW2
        have hX2 := hXV.below hW2
        clear hcls HM HN hW2 hXV
        go_wp2
        go_ret
        exact RV.mk (by rw [HF.out]; rfl) hB2
      by_cases g2 : xn = (v : Int) + 1
      · rw [g1] at HM
        have HX' := Lib.hid (upto_step HX.out (by rw [HE.out, g1, g2]; simp))
        clear HE HX g1
        subst g2
        go_wp2_with fail
        refine wp_region_quiet (C := fun w' => Below V.heap.size V w') (by kernel_rfl) (by kernel_rfl) ((Below.refl _ _).drew) ?_
        dsimp only [Array.toList]
        iterate 16
          with_reducible refine wpQuiet_step (fun K hK => ?_)
          go_simp
          first
            | (refine hK _ ?_; clear hK K)
            | (apply Exists.intro
               refine ⟨fun w' hw' => ?_, hK _ ?_⟩
               · obtain ⟨z0, z1, z2, z3⟩ := hcls w' hw'
                 have M1 := HM w'
                 have M2 := HN w' hw'
                 go_simp
                 first
                   | rfl
                   | (refine M1.mono ?_; rintro e w1 ⟨rfl, hb⟩; exact ⟨rfl, hw'.trans (hb.mono hw'.size)⟩)
                   | (refine M2.mono ?_; rintro e w1 ⟨rfl, hb⟩; exact ⟨rfl, hw'.trans (hb.mono hw'.size)⟩)
               clear hK K)
        refine wpQuiet_nil ?_
        intro W2 hW2
        have hB2 : Below w.heap.size w W2 := Below.on' hBV hW2
        have hX2 := hXV.below hW2
        clear hcls HM HN hW2 hXV
        go_wp2
        go_roundw
        case rel => exact ⟨k + 1, by omega, by go_num, HX', hX2, hB2⟩
        case measure => simp [intOf]; omega
      · rw [g1] at HM
        have HF : Hid (chanW s r h = false) := Lib.hid (by rw [chanW, sentB, upto_no hlt (by rw [HE.out, g1]; simpa using g2)]; rfl)
        clear HE HX g1
        go_wp2_with fail
        refine wp_region_quiet (C := fun w' => Below V.heap.size V w') (by kernel_rfl) (by kernel_rfl) ((Below.refl _ _).drew) ?_
        dsimp only [Array.toList]
        iterate 16
          with_reducible refine wpQuiet_step (fun K hK => ?_)
          go_simp
          first
            | (refine hK _ ?_; clear hK K)
            | (apply Exists.intro
               refine ⟨fun w' hw' => ?_, hK _ ?_⟩
               · obtain ⟨z0, z1, z2, z3⟩ := hcls w' hw'
                 have M1 := HM w'
                 have M2 := HN w' hw'
                 go_simp
                 first
                   | rfl
                   | (refine M1.mono ?_; rintro e w1 ⟨rfl, hb⟩; exact ⟨rfl, hw'.trans (hb.mono hw'.size)⟩)
                   | (refine M2.mono ?_; rintro e w1 ⟨rfl, hb⟩; exact ⟨rfl, hw'.trans (hb.mono hw'.size)⟩)
               clear hK K)
        refine wpQuiet_nil ?_
        intro W2 hW2
        have hB2 : Below w.heap.size w W2 := Below.on' hBV hW2
        have hX2 := hXV.below hW2
        clear hcls HM HN hW2 hXV
        go_wp2
        go_ret
        exact RV.mk (by rw [HF.out]; rfl) hB2
    · obtain rfl : k = s.length := by omega
      have HS : Hid (sentB s = true) := Lib.hid (upto_all HX.out)
      clear HX
      obtain ⟨x0, x1, x2, _, _, _⟩ := id hX
      by_cases g3 : (s.length : Int) ≤ 30
      rotate_left
      · have HF : Hid (chanW s r h = false) := Lib.hid (by
          have : decide (s.length ≤ 30) = false := by simp; omega
          rw [chanW, this]; simp)
        go_wp2
        go_ret
        exact RV.mk (by rw [HF.out]; rfl) hB
      have H3 : Hid (chanW s r h = (withB r s && withB h r)) := Lib.hid (by
        have : decide (s.length ≤ 30) = true := by simp; omega
        rw [chanW, this, HS.out]; simp)
      go_wp2_with fail
      refine (raWithin_any Ar cr r As cs s _ hlr hcr (hSr.below hB).all hls (hSs.below hB).all).mono ?_
      rintro e w1 ⟨rfl, hb⟩
      replace hX := hX.below hb
      have hB1 := Below.on' hB hb
      clear x0 x1 x2 hb
      obtain ⟨x0, x1, x2, _, _, _⟩ := id hX
      by_cases g4 : withB r s = true
      rotate_left
      · have g4 : withB r s = false := by simpa using g4
        rw [g4] at H3 ⊢
        go_wp2
        go_ret
        exact RV.mk (by rw [H3.out]; rfl) hB1
      rw [g4] at H3 ⊢
      go_wp2_with fail
      refine (raWithin_any Ah ch h Ar cr r _ hlh hch (hSh.below hB1).all hlr (hSr.below hB1).all).mono ?_
      rintro e w2 ⟨rfl, hb⟩
      have hB2 := Below.on' hB1 hb
      go_wp2
      go_ret
      exact RV.mk (by rw [H3.out, Bool.true_and]; rfl) hB2
end Go.Proofs.YtjmjilkpckbpeaaGreatDoor

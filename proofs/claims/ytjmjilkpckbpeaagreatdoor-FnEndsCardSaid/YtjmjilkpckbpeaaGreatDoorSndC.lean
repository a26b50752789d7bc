/- Sending a message, the reference: the channel's rows are the call's own. Conditions: at most 2^20 in each list, texts of at most 2^20. -/
import Derived.Test.YtjmjilkpckbpeaaGreatDoorLD
namespace Go.Proofs.YtjmjilkpckbpeaaGreatDoor
open Go.RowKit

theorem OwnC.nil {w : World} {base : Nat} : OwnC w base none 0 [] none 0 [] none 0 [] := ⟨Own.nil_, Own.nil_, Own.nil_, Dis.none_l, Dis.none_l, Dis.none_l⟩
def RCO (w : World) (t : (List Msg × List Msg × List Msg) × Bool) (e : Ending) (w' : World) : Prop :=
  ∃ A1 c1 A2 c2 A3 c3, e = .returned (.tuple #[.agg #[.slice A1 t.1.1.length c1, .slice A2 t.1.2.1.length c2, .slice A3 t.1.2.2.length c3], .bool t.2]) ∧ OwnC w' w.heap.size A1 c1 t.1.1 A2 c2 t.1.2.1 A3 c3 t.1.2.2 ∧ Below w.heap.size w w'
theorem OwnC.off {w0 w w' : World} {base b0 lo hi c1 c2 c3 : Nat} {A1 A2 A3 : Option Addr} {s r h : List Msg} (o : OwnC w0 base A1 c1 s A2 c2 r A3 c3 h) (hb : Below w0.heap.size w0 w) (hF : Fr lo hi w w') (hd : w0.heap.size ≤ lo) (h0 : b0 ≤ base) : OwnC w' b0 A1 c1 s A2 c2 r A3 c3 h := by
  have k : ∀ b, base ≤ b → b < w0.heap.size → w'.heap[b]? = w0.heap[b]? := fun b _ h2 => (hF.block b (Nat.lt_of_lt_of_le h2 hb.size) (by omega)).trans (hb.block b h2)
  exact OwnC.lift ⟨o.o1.keep k, o.o2.keep k, o.o3.keep k, o.d12, o.d13, o.d23⟩ h0
set_option maxRecDepth 100000 in
set_option maxHeartbeats 8000000 in
theorem SendMessage_specO (As : Option Addr) (cs : Nat) (s : List Msg) (Ar : Option Addr) (cr : Nat) (r : List Msg) (Ah : Option Addr) (ch : Nat) (h : List Msg) (f b : ByteArray) (w : World) (hls : s.length ≤ 1048576) (hms : ∀ y ∈ s, y.f.size ≤ 1048576 ∧ y.b.size ≤ 1048576) (hSs : Msgs w 0 w.heap.size As s) (hcs : s.length ≤ cs) (hlr : r.length ≤ 1048576) (hmr : ∀ y ∈ r, y.f.size ≤ 1048576 ∧ y.b.size ≤ 1048576) (hSr : Msgs w 0 w.heap.size Ar r) (hcr : r.length ≤ cr) (hlh : h.length ≤ 1048576) (hmh : ∀ y ∈ h, y.f.size ≤ 1048576 ∧ y.b.size ≤ 1048576) (hSh : Msgs w 0 w.heap.size Ah h) (hch : h.length ≤ ch) (hsf : f.size ≤ 1048576) (hsb : b.size ≤ 1048576) :
    Calls Tryz.prog 108 #[.agg #[.slice As s.length cs, .slice Ar r.length cr, .slice Ah h.length ch], .string f, .string b] w (RCO w (sndT s r h f b)) := by
  obtain ⟨i0, hi0, hz0, hz1, hz2⟩ := info_parts Msg.info
  generalize hT : sndT s r h f b = t
  replace hT := Lib.hid hT
  have e1 : (w.alloc (.cells #[.slice As s.length cs, .slice Ar r.length cr, .slice Ah h.length ch] 26)).heap.size = w.heap.size + 1 := by simp
  have hX := (B3.new w (.slice As s.length cs) (.slice Ar r.length cr) (.slice Ah h.length ch) 26 _ rfl).alloc (.cells #[.slice none 0 0, .slice none 0 0, .slice none 0 0] 26)
  have hR := B3.new (w.alloc (.cells #[.slice As s.length cs, .slice Ar r.length cr, .slice Ah h.length ch] 26)) (.slice none 0 0) (.slice none 0 0) (.slice none 0 0) 26 (w.heap.size + 1) e1.symm
  obtain ⟨b0, b1, b2, _, _, _⟩ := id hX
  go_enter Tryz.func108, Tryz.ntmps108
  go_wp2_with fail
  refine (raGood_any As cs s Ar cr r Ah ch h _ hls hms ((hSs.alloc _).alloc _).all hcs hlr hmr ((hSr.alloc _).alloc _).all hcr hlh hmh ((hSh.alloc _).alloc _).all hch).mono ?_
  rintro e v1 ⟨rfl, hb⟩
  have hB : Below w.heap.size w v1 := Below.on' (by go_grown) hb
  replace hX := hX.below hb
  replace hR := hR.below hb
  clear b0 b1 b2 e1 hb
  obtain ⟨b0, b1, b2, _, _, _⟩ := id hX
  by_cases g : chanB s r h = true
  rotate_left
  · have g : chanB s r h = false := by simpa using g
    obtain rfl : chNo = t := (sndT_no (by rw [sndOk, g]; rfl)).trans hT.out
    rw [g]
    obtain ⟨k0, k1, k2, f0, f1, f2⟩ := id hR
    have hR' := ((hR.set0 (.slice none 0 0)).set1 (.slice none 0 0)).set2 (.slice none 0 0)
    have hF : Fr (w.heap.size + 1) ((w.heap.size + 1) + 1) v1 (((v1.setCell ⟨(w.heap.size + 1), 0, none⟩ (.slice none 0 0)).setCell ⟨(w.heap.size + 1), 1, none⟩ (.slice none 0 0)).setCell ⟨(w.heap.size + 1), 2, none⟩ (.slice none 0 0)) := (((Fr.refl _ _ _).setCell ⟨by simp, by simp⟩ _).setCell ⟨by simp, by simp⟩ _).setCell ⟨by simp, by simp⟩ _
    have hB' := hB.trans (hF.below (B := w.heap.size) (by omega) (by have := hB.size; omega))
    have hI := fun W => OwnC.nil (w := W) (base := w.heap.size)
    obtain ⟨x0, x1, x2, _, _, _⟩ := id hR'
    go_wp2
    refine bodyPost_ret (by simp [results, Tryz.results108, go_sem, x0, x1, x2]; try rfl) rfl ?_
    exact ⟨none, 0, none, 0, none, 0, rfl, hI _, hB'⟩
  rw [g]
  go_wp2_with fail
  refine (apName_any f _ hsf).mono ?_
  rintro e v2 ⟨rfl, hb⟩
  replace hB := Below.on' hB hb
  replace hX := hX.below hb
  replace hR := hR.below hb
  clear b0 b1 b2 hb
  obtain ⟨b0, b1, b2, _, _, _⟩ := id hX
  by_cases g2 : nameB f = true
  rotate_left
  · have g2 : nameB f = false := by simpa using g2
    obtain rfl : chNo = t := (sndT_no (by rw [sndOk, g, g2]; rfl)).trans hT.out
    rw [g2]
    obtain ⟨k0, k1, k2, f0, f1, f2⟩ := id hR
    have hR' := ((hR.set0 (.slice none 0 0)).set1 (.slice none 0 0)).set2 (.slice none 0 0)
    have hF : Fr (w.heap.size + 1) ((w.heap.size + 1) + 1) v2 (((v2.setCell ⟨(w.heap.size + 1), 0, none⟩ (.slice none 0 0)).setCell ⟨(w.heap.size + 1), 1, none⟩ (.slice none 0 0)).setCell ⟨(w.heap.size + 1), 2, none⟩ (.slice none 0 0)) := (((Fr.refl _ _ _).setCell ⟨by simp, by simp⟩ _).setCell ⟨by simp, by simp⟩ _).setCell ⟨by simp, by simp⟩ _
    have hB' := hB.trans (hF.below (B := w.heap.size) (by omega) (by have := hB.size; omega))
    have hI := fun W => OwnC.nil (w := W) (base := w.heap.size)
    obtain ⟨x0, x1, x2, _, _, _⟩ := id hR'
    go_wp2
    refine bodyPost_ret (by simp [results, Tryz.results108, go_sem, x0, x1, x2]; try rfl) rfl ?_
    exact ⟨none, 0, none, 0, none, 0, rfl, hI _, hB'⟩
  rw [g2]
  go_wp2_with fail
  refine (raBody_any b _ hsb).mono ?_
  rintro e v3 ⟨rfl, hb⟩
  replace hB := Below.on' hB hb
  replace hX := hX.below hb
  replace hR := hR.below hb
  clear b0 b1 b2 hb
  obtain ⟨b0, b1, b2, _, _, _⟩ := id hX
  by_cases g3 : bodyB b = true
  rotate_left
  · have g3 : bodyB b = false := by simpa using g3
    obtain rfl : chNo = t := (sndT_no (by rw [sndOk, g, g2, g3]; rfl)).trans hT.out
    rw [g3]
    obtain ⟨k0, k1, k2, f0, f1, f2⟩ := id hR
    have hR' := ((hR.set0 (.slice none 0 0)).set1 (.slice none 0 0)).set2 (.slice none 0 0)
    have hF : Fr (w.heap.size + 1) ((w.heap.size + 1) + 1) v3 (((v3.setCell ⟨(w.heap.size + 1), 0, none⟩ (.slice none 0 0)).setCell ⟨(w.heap.size + 1), 1, none⟩ (.slice none 0 0)).setCell ⟨(w.heap.size + 1), 2, none⟩ (.slice none 0 0)) := (((Fr.refl _ _ _).setCell ⟨by simp, by simp⟩ _).setCell ⟨by simp, by simp⟩ _).setCell ⟨by simp, by simp⟩ _
    have hB' := hB.trans (hF.below (B := w.heap.size) (by omega) (by have := hB.size; omega))
    have hI := fun W => OwnC.nil (w := W) (base := w.heap.size)
    obtain ⟨x0, x1, x2, _, _, _⟩ := id hR'
    go_wp2
    refine bodyPost_ret (by simp [results, Tryz.results108, go_sem, x0, x1, x2]; try rfl) rfl ?_
    exact ⟨none, 0, none, 0, none, 0, rfl, hI _, hB'⟩
  rw [g3]
  by_cases g4 : s.length = 30
  · have g4' : (s.length : Int) = 30 := by omega
    obtain rfl : chNo = t := (sndT_no (by rw [sndOk, g, g2, g3, g4]; rfl)).trans hT.out
    clear hT g4
    obtain ⟨k0, k1, k2, f0, f1, f2⟩ := id hR
    have hR' := ((hR.set0 (.slice none 0 0)).set1 (.slice none 0 0)).set2 (.slice none 0 0)
    have hF : Fr (w.heap.size + 1) ((w.heap.size + 1) + 1) v3 (((v3.setCell ⟨(w.heap.size + 1), 0, none⟩ (.slice none 0 0)).setCell ⟨(w.heap.size + 1), 1, none⟩ (.slice none 0 0)).setCell ⟨(w.heap.size + 1), 2, none⟩ (.slice none 0 0)) := (((Fr.refl _ _ _).setCell ⟨by simp, by simp⟩ _).setCell ⟨by simp, by simp⟩ _).setCell ⟨by simp, by simp⟩ _
    have hB' := hB.trans (hF.below (B := w.heap.size) (by omega) (by have := hB.size; omega))
    have hI := fun W => OwnC.nil (w := W) (base := w.heap.size)
    obtain ⟨x0, x1, x2, _, _, _⟩ := id hR'
    go_wp2
    refine bodyPost_ret (by simp [results, Tryz.results108, go_sem, x0, x1, x2]; try rfl) rfl ?_
    exact ⟨none, 0, none, 0, none, 0, rfl, hI _, hB'⟩
  have g4' : ((s.length : Int) == 30) = false := by simp; omega
  obtain rfl := (sndT_yes (by rw [sndOk, g, g2, g3]; simpa using g4)).trans hT.out
  clear hT g2 g3 g4
  generalize hL : s ++ [⟨f, (cntM s f : Int) + 1, b⟩] = L
  replace hL := Lib.hid hL
  have hv : cntM s f ≤ 1048576 := Nat.le_trans (cntM_le s f) hls
  go_wp2_with fail
  refine (raOwn_any As cs s Ar cr r Ah ch h _ hls (hSs.below hB).all hlr (hSr.below hB).all hlh (hSh.below hB).all).mono ?_
  rintro e v4 ⟨A1, c1, A2, c2, A3, c3, rfl, hO, hb⟩
  have hz := hR.lt
  have hz4 := hb.size
  replace hB := Below.on' hB hb
  replace hX := hX.below hb
  replace hR := hR.below hb
  clear b0 b1 b2 hb
  obtain ⟨b0, b1, b2, _, _, _⟩ := id hX
  have hY := B3.new v4 (.slice A1 s.length c1) (.slice A2 r.length c2) (.slice A3 h.length c3) 26 _ rfl
  replace hX := hX.alloc (.cells #[.slice A1 s.length c1, .slice A2 r.length c2, .slice A3 h.length c3] 26)
  replace hR := hR.alloc (.cells #[.slice A1 s.length c1, .slice A2 r.length c2, .slice A3 h.length c3] 26)
  have hB5 := hB.alloc hB.size (.cells #[.slice A1 s.length c1, .slice A2 r.length c2, .slice A3 h.length c3] 26)
  have hd1 := dis_lt hO.o1.blk
  have hd2 := dis_lt hO.o2.blk
  have hd3 := dis_lt hO.o3.blk
  have hO5 := hO.alloc (.cells #[.slice A1 s.length c1, .slice A2 r.length c2, .slice A3 h.length c3] 26)
  have hbs : v3.heap.size ≤ (v4.alloc (.cells #[.slice A1 s.length c1, .slice A2 r.length c2, .slice A3 h.length c3] 26)).heap.size := by simp; omega
  go_upto_region 4 with fail
  refine wp_region_held_drew (S := fun _ => True) (by kernel_rfl) trivial (fun _ => ?_)
  replace hX := hX.drew
  replace hR := hR.drew
  replace hY := hY.drew
  replace hO5 := hO5.drew
  replace hB5 := hB5.drew
  have hz5 : v4.heap.size + 1 = (v4.alloc (.cells #[.slice A1 s.length c1, .slice A2 r.length c2, .slice A3 h.length c3] 26)).drew.heap.size := by rw [show (v4.alloc (.cells #[.slice A1 s.length c1, .slice A2 r.length c2, .slice A3 h.length c3] 26)).drew.heap.size = (v4.alloc (.cells #[.slice A1 s.length c1, .slice A2 r.length c2, .slice A3 h.length c3] 26)).heap.size from rfl]; simp
  generalize (v4.alloc (.cells #[.slice A1 s.length c1, .slice A2 r.length c2, .slice A3 h.length c3] 26)).drew = W0 at hX hR hY hO5 hB5 hz5 ⊢
  clear hB hO b0 b1 b2 hbs
  change wpAnyH _ _ _ _ _ 14 #[false, false, false, false, false, false, false, false, false, false, false, false, false, false] _ _
  refine wpAnyH_takeL (i := 0) (v := .pointer (some ⟨v4.heap.size, 0, none⟩)) rfl (by kernel_rfl) (by kernel_rfl) (by kernel_rfl) (fun _ _ _ h => h) (Or.inl ⟨by rfl, fun w' _ => by go_simp⟩) trivial ?_
  simp only [Act.put, List.setIfInBounds_toArray, List.set_cons_zero, List.set_cons_succ]
  refine wpAnyH_takeL (i := 2) (v := .string f) rfl (by kernel_rfl) (by kernel_rfl) (by kernel_rfl) (fun _ _ _ h => h) (Or.inl ⟨by rfl, fun w' _ => by go_simp⟩) trivial ?_
  simp only [Act.put, List.setIfInBounds_toArray, List.set_cons_zero, List.set_cons_succ]
  refine wpAnyH_takeL (i := 3) (v := .pointer (some ⟨w.heap.size, 0, none⟩)) rfl (by kernel_rfl) (by kernel_rfl) (by kernel_rfl) (fun _ _ _ h => h) (Or.inl ⟨by rfl, fun w' _ => by go_simp⟩) trivial ?_
  simp only [Act.put, List.setIfInBounds_toArray, List.set_cons_zero, List.set_cons_succ]
  refine wpAnyH_takeL (i := 5) (v := .string f) rfl (by kernel_rfl) (by kernel_rfl) (by kernel_rfl) (fun _ _ _ h => h) (Or.inl ⟨by rfl, fun w' _ => by go_simp⟩) trivial ?_
  simp only [Act.put, List.setIfInBounds_toArray, List.set_cons_zero, List.set_cons_succ]
  refine wpAnyH_takeL (i := 8) (v := .string b) rfl (by kernel_rfl) (by kernel_rfl) (by kernel_rfl) (fun _ _ _ h => h) (Or.inl ⟨by rfl, fun w' _ => by go_simp⟩) trivial ?_
  simp only [Act.put, List.setIfInBounds_toArray, List.set_cons_zero, List.set_cons_succ]
  refine wpAnyH_inv (m := 3) (I := fun n l a W => ∃ x y v32 v35 v37 v38 v40 v41, n + x + y = 6 ∧ x ≤ 1 ∧ y ≤ 5 ∧ l = #[true, decide (1 ≤ x), true, true, decide (1 ≤ y), true, decide (2 ≤ y), decide (3 ≤ y), true, decide (4 ≤ y), decide (5 ≤ y), false, false, false] ∧ a = ⟨#[.agg #[.slice As s.length cs, .slice Ar r.length cr, .slice Ah h.length ch], .string f, .string b, .pointer (some ⟨w.heap.size, 0, none⟩), undef, undef, .pointer (some ⟨w.heap.size + 1, 0, none⟩), .bool false, .pointer (some ⟨v4.heap.size, 0, none⟩), .agg #[.slice As s.length cs, .slice Ar r.length cr, .slice Ah h.length ch], .bool true, .bool false, .bool false, .string f, .bool true, .bool false, .bool false, .bool false, .string b, .bool true, .bool false, .bool false, .bool false, .pointer (some ⟨w.heap.size, 0, none⟩), .slice As s.length cs, .int .i64 s.length, .bool false, .bool false, undef, .agg #[.slice As s.length cs, .slice Ar r.length cr, .slice Ah h.length ch], .agg #[.slice A1 s.length c1, .slice A2 r.length c2, .slice A3 h.length c3], .pointer (some ⟨v4.heap.size, 0, none⟩), v32, .string f, .pointer (some ⟨w.heap.size, 0, none⟩), v35, .string f, v37, v38, .string b, v40, v41, undef, undef, undef], []⟩ ∧ (1 ≤ x → v32 = .slice A1 s.length c1) ∧ (1 ≤ y → v35 = .slice As s.length cs) ∧ (2 ≤ y → v37 = .int .i64 (cntM s f)) ∧ (3 ≤ y → v38 = .int .i64 ((cntM s f : Int) + 1)) ∧ (4 ≤ y → v40 = .agg #[.string f, .int .i64 ((cntM s f : Int) + 1), .string b]) ∧ (5 ≤ y → ∃ g, v41 = .slice (some ⟨g, 0, none⟩) 1 1 ∧ Msgs W 0 W.heap.size (some ⟨g, 0, none⟩) [⟨f, (cntM s f : Int) + 1, b⟩]) ∧ B3 w.heap.size (.slice As s.length cs) (.slice Ar r.length cr) (.slice Ah h.length ch) W ∧ B3 v4.heap.size (.slice A1 s.length c1) (.slice A2 r.length c2) (.slice A3 h.length c3) W ∧ B3 (w.heap.size + 1) (.slice none 0 0) (.slice none 0 0) (.slice none 0 0) W ∧ OwnC W v3.heap.size A1 c1 s A2 c2 r A3 c3 h ∧ Below w.heap.size w W) ?_ ?_ 6 _ _ _ ⟨0, 0, undef, undef, undef, undef, undef, undef, rfl, by omega, by omega, rfl, rfl, by omega, by omega, by omega, by omega, by omega, by omega, hX, hY, hR, hO5, hB5⟩
  · rintro n l a W ⟨x, y, v32, v35, v37, v38, v40, v41, hn, hx, hy, rfl, rfl, e32, e35, e37, e38, e40, e41, hX, hY, hR, hO, hB⟩
    refine ⟨?_, fun i' o ho hi K hK => ?_⟩
    · rcases (by omega : x = 0 ∨ x = 1) with rfl | rfl <;> rcases (by omega : y = 0 ∨ y = 1 ∨ y = 2 ∨ y = 3 ∨ y = 4 ∨ y = 5) with rfl | rfl | rfl | rfl | rfl | rfl <;> first | kernel_rfl | (exfalso; omega)
    · obtain ⟨hun, _⟩ := mem_ready.1 hi
      have hcont := List.contains_iff_mem.2 hi
      have hw : IntKind.i64.wrap ((cntM s f : Int) + 1) = (cntM s f : Int) + 1 := IntWalk.i64_in _ (by omega)
      obtain ⟨z0, z1, z2, _, _, _⟩ := id hX
      obtain ⟨z3, z4, z5, _, _, _⟩ := id hY
      have hi17 : i' = 0 ∨ i' = 1 ∨ i' = 2 ∨ i' = 3 ∨ i' = 4 ∨ i' = 5 ∨ i' = 6 ∨ i' = 7 ∨ i' = 8 ∨ i' = 9 ∨ i' = 10 ∨ i' = 11 ∨ i' = 12 ∨ i' = 13 := by
        have := (List.getElem?_eq_some_iff.1 ho).1
        simp only [List.length_cons, List.length_nil] at this
        omega
      rcases hi17 with rfl | rfl | rfl | rfl | rfl | rfl | rfl | rfl | rfl | rfl | rfl | rfl | rfl | rfl
      · cases hun
      · have hx0 : x = 0 := by have := of_decide_eq_false hun; omega
        subst hx0
        obtain rfl := Option.some.inj ho
        clear ho hi hcont hun
        go_simp
        exact hK.out _ _ trivial ⟨1, y, _, v35, v37, v38, v40, v41, by omega, by omega, by omega, rfl, rfl, fun _ => rfl, e35, e37, e38, e40, e41, hX, hY, hR, hO, hB⟩
      · cases hun
      · cases hun
      · have hy1 : y ≤ 0 := by have := of_decide_eq_false hun; omega
        have hy0 : y = 0 := by
          omega
        subst hy0
        obtain rfl := Option.some.inj ho
        clear ho hi hcont hun
        go_simp
        exact hK.out _ _ trivial ⟨x, 1, v32, _, v37, v38, v40, v41, by omega, by omega, by omega, rfl, rfl, e32, fun _ => rfl, by omega, by omega, by omega, by omega, hX, hY, hR, hO, hB⟩
      · cases hun
      · have hy1 : y ≤ 1 := by have := of_decide_eq_false hun; omega
        have hy0 : y = 1 := by
          rcases (by omega : x = 0 ∨ x = 1) with rfl | rfl <;> rcases (by omega : y = 0 ∨ y = 1) with rfl | rfl <;> first | rfl | exact absurd (hcont.symm.trans (by kernel_rfl : _ = false)) (by decide)
        subst hy0
        obtain rfl := Option.some.inj ho
        clear ho hi hcont hun
        obtain rfl := e35 (by omega)
        go_simp
        go_at_call 131
        refine (raCount_any As cs s f _ hls (hSs.below hB).all).mono ?_
        rintro e V ⟨rfl, hb⟩
        go_simp
        exact hK.out _ _ trivial ⟨x, 2, v32, _, _, v38, v40, v41, by omega, by omega, by omega, rfl, rfl, e32, fun _ => rfl, fun _ => rfl, by omega, by omega, by omega, hX.below hb, hY.below hb, hR.below hb, hO.below hb, Below.on' hB hb⟩
      · have hy1 : y ≤ 2 := by have := of_decide_eq_false hun; omega
        have hy0 : y = 2 := by
          rcases (by omega : x = 0 ∨ x = 1) with rfl | rfl <;> rcases (by omega : y = 0 ∨ y = 1 ∨ y = 2) with rfl | rfl | rfl <;> first | rfl | exact absurd (hcont.symm.trans (by kernel_rfl : _ = false)) (by decide)
        subst hy0
        obtain rfl := Option.some.inj ho
        clear ho hi hcont hun
        obtain rfl := e35 (by omega)
        obtain rfl := e37 (by omega)
        go_simp
        exact hK.out _ _ trivial ⟨x, 3, v32, _, _, _, v40, v41, by omega, by omega, by omega, rfl, rfl, e32, fun _ => rfl, fun _ => rfl, fun _ => rfl, by omega, by omega, hX, hY, hR, hO, hB⟩
      · cases hun
      · have hy1 : y ≤ 3 := by have := of_decide_eq_false hun; omega
        have hy0 : y = 3 := by
          rcases (by omega : x = 0 ∨ x = 1) with rfl | rfl <;> rcases (by omega : y = 0 ∨ y = 1 ∨ y = 2 ∨ y = 3) with rfl | rfl | rfl | rfl <;> first | rfl | exact absurd (hcont.symm.trans (by kernel_rfl : _ = false)) (by decide)
        subst hy0
        obtain rfl := Option.some.inj ho
        clear ho hi hcont hun
        obtain rfl := e35 (by omega)
        obtain rfl := e37 (by omega)
        obtain rfl := e38 (by omega)
        go_simp
        exact hK.out _ _ trivial ⟨x, 4, v32, _, _, _, _, v41, by omega, by omega, by omega, rfl, rfl, e32, fun _ => rfl, fun _ => rfl, fun _ => rfl, fun _ => rfl, by omega, hX, hY, hR, hO, hB⟩
      · have hy1 : y ≤ 4 := by have := of_decide_eq_false hun; omega
        have hy0 : y = 4 := by
          rcases (by omega : x = 0 ∨ x = 1) with rfl | rfl <;> rcases (by omega : y = 0 ∨ y = 1 ∨ y = 2 ∨ y = 3 ∨ y = 4) with rfl | rfl | rfl | rfl | rfl <;> first | rfl | exact absurd (hcont.symm.trans (by kernel_rfl : _ = false)) (by decide)
        subst hy0
        obtain rfl := Option.some.inj ho
        clear ho hi hcont hun
        obtain rfl := e35 (by omega)
        obtain rfl := e37 (by omega)
        obtain rfl := e38 (by omega)
        obtain rfl := e40 (by omega)
        go_simp
        exact hK.out _ _ trivial ⟨x, 5, v32, _, _, _, _, _, by omega, by omega, by omega, rfl, rfl, e32, fun _ => rfl, fun _ => rfl, fun _ => rfl, fun _ => rfl, fun _ => ⟨W.heap.size, rfl, sl_one W ⟨f, (cntM s f : Int) + 1, b⟩⟩, hX.alloc _, hY.alloc _, hR.alloc _, hO.alloc _, hB.alloc hB.size _⟩
      · exfalso
        rcases (by omega : x = 0 ∨ x = 1) with rfl | rfl <;> rcases (by omega : y = 0 ∨ y = 1 ∨ y = 2 ∨ y = 3 ∨ y = 4 ∨ y = 5) with rfl | rfl | rfl | rfl | rfl | rfl <;> first | omega | exact absurd (hcont.symm.trans (by kernel_rfl : _ = false)) (by decide)
      · exfalso
        rcases (by omega : x = 0 ∨ x = 1) with rfl | rfl <;> rcases (by omega : y = 0 ∨ y = 1 ∨ y = 2 ∨ y = 3 ∨ y = 4 ∨ y = 5) with rfl | rfl | rfl | rfl | rfl | rfl <;> first | omega | exact absurd (hcont.symm.trans (by kernel_rfl : _ = false)) (by decide)
      · exfalso
        rcases (by omega : x = 0 ∨ x = 1) with rfl | rfl <;> rcases (by omega : y = 0 ∨ y = 1 ∨ y = 2 ∨ y = 3 ∨ y = 4 ∨ y = 5) with rfl | rfl | rfl | rfl | rfl | rfl <;> first | omega | exact absurd (hcont.symm.trans (by kernel_rfl : _ = false)) (by decide)
  · rintro l a W ⟨x, y, v32, v35, v37, v38, v40, v41, hn, hx, hy, rfl, rfl, e32, e35, e37, e38, e40, e41, hX, hY, hR, hO, hB⟩
    obtain ⟨rfl, rfl⟩ : x = 1 ∧ y = 5 := by omega
    obtain rfl := e32 (by omega)
    obtain ⟨g, rfl, hG⟩ := e41 (by omega)
    have hYl := hY.lt
    change wpAnyH _ _ _ _ _ _ #[true, true, true, true, true, true, true, true, true, true, true, false, false, false] _ _
    refine wpAnyH_ready (rs := [11]) (by kernel_rfl) (by simp) ?_
    refine AllReadyH.consL rfl (fun K hK => ?_) AllReadyH.nil
    rw [if_pos (by rfl)]
    refine wp_append_all W (.tmp 32) (.tmp 41) _ rfl i0 _ _ Tryz.underlying24 hi0 hz0 hz1 hz2 rfl (by omega) Msg.len Msg.one hO.o1 hG rfl rfl (by simp only [List.length_cons, List.length_nil]; unfold maxLen; omega) (by simp only [List.length_cons, List.length_nil]; omega) (by omega) ?_
    intro A' c' V hOw hbw hbut hd
    rw [hL.out] at hOw ⊢
    refine hK.out _ _ trivial (fun _ => ?_)
    clear hK K
    have hO3 := hO.push1 hOw hbut hd
    have hY3 := hY.same (hbut v4.heap.size hY.lt (fun a ha => hd1 a _ ha rfl))
    have hdN := hd (some ⟨v4.heap.size, 0, none⟩) hd1 (fun a ha => by injection ha with ha; subst ha; exact hYl)
    have hR3 := hR.upto (by omega) hbw
    have hB3 := hB.trans (hbw.mono (by omega))
    obtain ⟨g0, g1, g2, g3, g4, g5⟩ := id hY3
    refine wpAnyH_takeL (i := 12) (v := .pointer (some ⟨v4.heap.size, 0, none⟩)) rfl (by kernel_rfl) (by kernel_rfl) (by kernel_rfl) (fun _ _ _ h => h) (Or.inl ⟨by rfl, fun w' _ => by go_simp⟩) trivial ?_
    simp only [Act.put, List.setIfInBounds_toArray, List.set_cons_zero, List.set_cons_succ]
    refine wpAnyH_ready (rs := [13]) (by kernel_rfl) (by simp) ?_
    refine AllReadyH.consL rfl (fun K hK => ?_) AllReadyH.nil
    go_simp
    refine hK.out _ _ trivial (fun _ => ?_)
    clear hK K
    refine wpAnyH_done (by kernel_rfl) ?_ _
    have hFg : Fr v4.heap.size (v4.heap.size + 1) V (V.setCell ⟨v4.heap.size, 0, none⟩ (.slice A' L.length c')) := (Fr.refl _ _ _).setCell ⟨by simp, by simp⟩ _
    replace hO := hO3.apart hFg hdN hd2 hd3
    replace hY := hY3.set0 (.slice A' L.length c')
    replace hR := hR3.off (p := ⟨v4.heap.size, 0, none⟩) (by simp; omega) (.slice A' L.length c')
    have hszV : v4.heap.size < V.heap.size := hY3.lt
    replace hB := hB3.trans (hFg.below (B := w.heap.size) (by omega) (by omega))
    obtain ⟨y0, y1, y2, _, _, _⟩ := id hY
    clear hY3 hO3 hR3 hB3 hOw hbw hbut hd hX
    obtain ⟨k0, k1, k2, f0, f1, f2⟩ := id hR
    have hR' := ((hR.set0 (.slice A' L.length c')).set1 (.slice A2 r.length c2)).set2 (.slice A3 h.length c3)
    have hF : Fr (w.heap.size + 1) ((w.heap.size + 1) + 1) (V.setCell ⟨v4.heap.size, 0, none⟩ (.slice A' L.length c')) ((((V.setCell ⟨v4.heap.size, 0, none⟩ (.slice A' L.length c')).setCell ⟨(w.heap.size + 1), 0, none⟩ (.slice A' L.length c')).setCell ⟨(w.heap.size + 1), 1, none⟩ (.slice A2 r.length c2)).setCell ⟨(w.heap.size + 1), 2, none⟩ (.slice A3 h.length c3)) := (((Fr.refl _ _ _).setCell ⟨by simp, by simp⟩ _).setCell ⟨by simp, by simp⟩ _).setCell ⟨by simp, by simp⟩ _
    have hB' := hB.trans (hF.below (B := w.heap.size) (by omega) (by have := hB.size; omega))
    have hO' := (hO.far hF (by omega)).lift (b0 := w.heap.size) (by omega)
    obtain ⟨x0, x1, x2, _, _, _⟩ := id hR'
    go_wp2
    refine bodyPost_ret (by simp [results, Tryz.results108, go_sem, x0, x1, x2]; try rfl) rfl ?_
    obtain rfl := hL.out
    exact ⟨A', c', A2, c2, A3, c3, rfl, hO', hB'⟩
end Go.Proofs.YtjmjilkpckbpeaaGreatDoor

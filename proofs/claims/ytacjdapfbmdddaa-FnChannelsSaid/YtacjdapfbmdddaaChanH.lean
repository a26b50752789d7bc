/- SendMessage, on both sides. Condition: at most 2^20 messages in each list, texts of at most 2^20. -/
import Derived.Test.YtacjdapfbmdddaaChanL
namespace Go.Proofs.Ytacjdapfbmdddaa
open Go.RowKit

def sndOk (s r h : List Msg) (f b : ByteArray) : Bool := chanB s r h && nameB f && bodyB b && !decide (s.length = 30)
def sndT (s r h : List Msg) (f b : ByteArray) : (List Msg × List Msg × List Msg) × Bool := if sndOk s r h f b = true then ((s ++ [⟨f, (cntM s f : Int) + 1, b⟩], r, h), true) else chNo
theorem sndT_no {s r h : List Msg} {f b : ByteArray} (hg : sndOk s r h f b = false) : chNo = sndT s r h f b := by rw [sndT, hg]; rfl
theorem sndT_yes {s r h : List Msg} {f b : ByteArray} (hg : sndOk s r h f b = true) : ((s ++ [⟨f, (cntM s f : Int) + 1, b⟩], r, h), true) = sndT s r h f b := by rw [sndT, if_pos hg]
theorem sndT_len {s r h : List Msg} {f b : ByteArray} (_hs : s.length ≤ 1048576) (_hr : r.length ≤ 1048576) (_hh : h.length ≤ 1048576) : (sndT s r h f b).1.1.length ≤ 1048576 ∧ (sndT s r h f b).1.2.1.length ≤ 1048576 ∧ (sndT s r h f b).1.2.2.length ≤ 1048576 := by
  unfold sndT
  split
  · rename_i g
    have g : chanB s r h = true := by simp only [sndOk, Bool.and_eq_true] at g; exact g.1.1.1
    obtain ⟨h1, h2, h3⟩ := chan_len g
    simp only [List.length_append, List.length_cons, List.length_nil]
    omega
  · simp [chNo]
set_option maxRecDepth 100000 in
set_option maxHeartbeats 8000000 in
theorem SendMessage_spec (As : Option Addr) (cs : Nat) (s : List Msg) (Ar : Option Addr) (cr : Nat) (r : List Msg) (Ah : Option Addr) (ch : Nat) (h : List Msg) (f b : ByteArray) (w : World) (hls : s.length ≤ 1048576) (hms : ∀ y ∈ s, y.f.size ≤ 1048576 ∧ y.b.size ≤ 1048576) (hSs : Msgs w 0 w.heap.size As s) (hcs : s.length ≤ cs) (hlr : r.length ≤ 1048576) (hmr : ∀ y ∈ r, y.f.size ≤ 1048576 ∧ y.b.size ≤ 1048576) (hSr : Msgs w 0 w.heap.size Ar r) (hcr : r.length ≤ cr) (hlh : h.length ≤ 1048576) (hmh : ∀ y ∈ h, y.f.size ≤ 1048576 ∧ y.b.size ≤ 1048576) (hSh : Msgs w 0 w.heap.size Ah h) (hch : h.length ≤ ch) (hsf : f.size ≤ 1048576) (hsb : b.size ≤ 1048576) :
    Calls Try.prog 7 #[.agg #[.slice As s.length cs, .slice Ar r.length cr, .slice Ah h.length ch], .string f, .string b] w (RCT w (sndT s r h f b)) := by
  obtain ⟨i0, hi0, hz0, hz1, hz2⟩ := info_parts Msg.info
  generalize hT : sndT s r h f b = t
  replace hT := Lib.hid hT
  have e1 : (w.alloc (.cells #[.slice As s.length cs, .slice Ar r.length cr, .slice Ah h.length ch] 26)).heap.size = w.heap.size + 1 := by simp
  have hX := (B3.new w (.slice As s.length cs) (.slice Ar r.length cr) (.slice Ah h.length ch) 26 _ rfl).alloc (.cells #[.slice none 0 0, .slice none 0 0, .slice none 0 0] 26)
  have hR := B3.new (w.alloc (.cells #[.slice As s.length cs, .slice Ar r.length cr, .slice Ah h.length ch] 26)) (.slice none 0 0) (.slice none 0 0) (.slice none 0 0) 26 (w.heap.size + 1) e1.symm
  obtain ⟨b0, b1, b2, _, _, _⟩ := id hX
  go_enter Try.func7, Try.ntmps7
  go_wp2_with fail
  refine (raGood_any As cs s Ar cr r Ah ch h _ hls hms ((hSs.alloc _).alloc _).all hcs hlr hmr ((hSr.alloc _).alloc _).all hcr hlh hmh ((hSh.alloc _).alloc _).all hch).mono ?_
  rintro e v1 ⟨rfl, hb⟩
  have hB : Below w.heap.size w v1 := Below.on' (by go_grown) hb
  replace hX := hX.below hb
  replace hR := hR.below hb
  clear b0 b1 b2 e1 hb
  obtain ⟨b0, b1, b2, _, _, _⟩ := id hX
  by_cases g : chanB s r h = true
  rotate_left
  · have g : chanB s r h = false := by simpa using g
    obtain rfl : chNo = t := (sndT_no (by rw [sndOk, g]; rfl)).trans hT.out
    rw [g]
    obtain ⟨k0, k1, k2, f0, f1, f2⟩ := id hR
    have hR' := ((hR.set0 (.slice none 0 0)).set1 (.slice none 0 0)).set2 (.slice none 0 0)
    have hF : Fr (w.heap.size + 1) ((w.heap.size + 1) + 1) v1 (((v1.setCell ⟨(w.heap.size + 1), 0, none⟩ (.slice none 0 0)).setCell ⟨(w.heap.size + 1), 1, none⟩ (.slice none 0 0)).setCell ⟨(w.heap.size + 1), 2, none⟩ (.slice none 0 0)) := (((Fr.refl _ _ _).setCell ⟨by simp, by simp⟩ _).setCell ⟨by simp, by simp⟩ _).setCell ⟨by simp, by simp⟩ _
    have hB' := hB.trans (hF.below (B := w.heap.size) (by omega) (by have := hB.size; omega))
    have hI := IntC.nil_ _ (base := w.heap.size) hB'.size
    obtain ⟨x0, x1, x2, _, _, _⟩ := id hR'
    go_wp2
    refine bodyPost_ret (by simp [results, Try.results7, go_sem, x0, x1, x2]; try rfl) rfl ?_
    exact ⟨none, 0, none, 0, none, 0, rfl, hI, hB'⟩
  rw [g]
  go_wp2_with fail
  refine (apName_any f _ hsf).mono ?_
  rintro e v2 ⟨rfl, hb⟩
  replace hB := Below.on' hB hb
  replace hX := hX.below hb
  replace hR := hR.below hb
  clear b0 b1 b2 hb
  obtain ⟨b0, b1, b2, _, _, _⟩ := id hX
  by_cases g2 : nameB f = true
  rotate_left
  · have g2 : nameB f = false := by simpa using g2
    obtain rfl : chNo = t := (sndT_no (by rw [sndOk, g, g2]; rfl)).trans hT.out
    rw [g2]
    obtain ⟨k0, k1, k2, f0, f1, f2⟩ := id hR
    have hR' := ((hR.set0 (.slice none 0 0)).set1 (.slice none 0 0)).set2 (.slice none 0 0)
    have hF : Fr (w.heap.size + 1) ((w.heap.size + 1) + 1) v2 (((v2.setCell ⟨(w.heap.size + 1), 0, none⟩ (.slice none 0 0)).setCell ⟨(w.heap.size + 1), 1, none⟩ (.slice none 0 0)).setCell ⟨(w.heap.size + 1), 2, none⟩ (.slice none 0 0)) := (((Fr.refl _ _ _).setCell ⟨by simp, by simp⟩ _).setCell ⟨by simp, by simp⟩ _).setCell ⟨by simp, by simp⟩ _
    have hB' := hB.trans (hF.below (B := w.heap.size) (by omega) (by have := hB.size; omega))
    have hI := IntC.nil_ _ (base := w.heap.size) hB'.size
    obtain ⟨x0, x1, x2, _, _, _⟩ := id hR'
    go_wp2
    refine bodyPost_ret (by simp [results, Try.results7, go_sem, x0, x1, x2]; try rfl) rfl ?_
    exact ⟨none, 0, none, 0, none, 0, rfl, hI, hB'⟩
  rw [g2]
  go_wp2_with fail
  refine (raBody_any b _ hsb).mono ?_
  rintro e v3 ⟨rfl, hb⟩
  replace hB := Below.on' hB hb
  replace hX := hX.below hb
  replace hR := hR.below hb
  clear b0 b1 b2 hb
  obtain ⟨b0, b1, b2, _, _, _⟩ := id hX
  by_cases g3 : bodyB b = true
  rotate_left
  · have g3 : bodyB b = false := by simpa using g3
    obtain rfl : chNo = t := (sndT_no (by rw [sndOk, g, g2, g3]; rfl)).trans hT.out
    rw [g3]
    obtain ⟨k0, k1, k2, f0, f1, f2⟩ := id hR
    have hR' := ((hR.set0 (.slice none 0 0)).set1 (.slice none 0 0)).set2 (.slice none 0 0)
    have hF : Fr (w.heap.size + 1) ((w.heap.size + 1) + 1) v3 (((v3.setCell ⟨(w.heap.size + 1), 0, none⟩ (.slice none 0 0)).setCell ⟨(w.heap.size + 1), 1, none⟩ (.slice none 0 0)).setCell ⟨(w.heap.size + 1), 2, none⟩ (.slice none 0 0)) := (((Fr.refl _ _ _).setCell ⟨by simp, by simp⟩ _).setCell ⟨by simp, by simp⟩ _).setCell ⟨by simp, by simp⟩ _
    have hB' := hB.trans (hF.below (B := w.heap.size) (by omega) (by have := hB.size; omega))
    have hI := IntC.nil_ _ (base := w.heap.size) hB'.size
    obtain ⟨x0, x1, x2, _, _, _⟩ := id hR'
    go_wp2
    refine bodyPost_ret (by simp [results, Try.results7, go_sem, x0, x1, x2]; try rfl) rfl ?_
    exact ⟨none, 0, none, 0, none, 0, rfl, hI, hB'⟩
  rw [g3]
  by_cases g4 : s.length = 30
  · have g4' : (s.length : Int) = 30 := by omega
    obtain rfl : chNo = t := (sndT_no (by rw [sndOk, g, g2, g3, g4]; rfl)).trans hT.out
    clear hT g4
    obtain ⟨k0, k1, k2, f0, f1, f2⟩ := id hR
    have hR' := ((hR.set0 (.slice none 0 0)).set1 (.slice none 0 0)).set2 (.slice none 0 0)
    have hF : Fr (w.heap.size + 1) ((w.heap.size + 1) + 1) v3 (((v3.setCell ⟨(w.heap.size + 1), 0, none⟩ (.slice none 0 0)).setCell ⟨(w.heap.size + 1), 1, none⟩ (.slice none 0 0)).setCell ⟨(w.heap.size + 1), 2, none⟩ (.slice none 0 0)) := (((Fr.refl _ _ _).setCell ⟨by simp, by simp⟩ _).setCell ⟨by simp, by simp⟩ _).setCell ⟨by simp, by simp⟩ _
    have hB' := hB.trans (hF.below (B := w.heap.size) (by omega) (by have := hB.size; omega))
    have hI := IntC.nil_ _ (base := w.heap.size) hB'.size
    obtain ⟨x0, x1, x2, _, _, _⟩ := id hR'
    go_wp2
    refine bodyPost_ret (by simp [results, Try.results7, go_sem, x0, x1, x2]; try rfl) rfl ?_
    exact ⟨none, 0, none, 0, none, 0, rfl, hI, hB'⟩
  have g4' : ((s.length : Int) == 30) = false := by simp; omega
  obtain rfl := (sndT_yes (by rw [sndOk, g, g2, g3]; simpa using g4)).trans hT.out
  clear hT g2 g3 g4
  generalize hL : s ++ [⟨f, (cntM s f : Int) + 1, b⟩] = L
  replace hL := Lib.hid hL
  have hv : cntM s f ≤ 1048576 := Nat.le_trans (cntM_le s f) hls
  go_wp2_with fail
  refine (raOwn_any As cs s Ar cr r Ah ch h _ hls (hSs.below hB).all hlr (hSr.below hB).all hlh (hSh.below hB).all).mono ?_
  rintro e v4 ⟨A1, c1, A2, c2, A3, c3, rfl, hO, hb⟩
  have hz := hR.lt
  have hz4 := hb.size
  replace hB := Below.on' hB hb
  replace hX := hX.below hb
  replace hR := hR.below hb
  clear b0 b1 b2 hb
  obtain ⟨b0, b1, b2, _, _, _⟩ := id hX
  have hY := B3.new v4 (.slice A1 s.length c1) (.slice A2 r.length c2) (.slice A3 h.length c3) 26 _ rfl
  replace hX := hX.alloc (.cells #[.slice A1 s.length c1, .slice A2 r.length c2, .slice A3 h.length c3] 26)
  replace hR := hR.alloc (.cells #[.slice A1 s.length c1, .slice A2 r.length c2, .slice A3 h.length c3] 26)
  have hB5 := hB.alloc hB.size (.cells #[.slice A1 s.length c1, .slice A2 r.length c2, .slice A3 h.length c3] 26)
  have hd1 := dis_lt hO.o1.blk
  have hd2 := dis_lt hO.o2.blk
  have hd3 := dis_lt hO.o3.blk
  have hO5 := hO.alloc (.cells #[.slice A1 s.length c1, .slice A2 r.length c2, .slice A3 h.length c3] 26)
  have hbs : v3.heap.size ≤ (v4.alloc (.cells #[.slice A1 s.length c1, .slice A2 r.length c2, .slice A3 h.length c3] 26)).heap.size := by simp; omega
  go_upto_region 4 with fail
  refine wp_region_held_drew (S := fun _ => True) (by kernel_rfl) trivial (fun _ => ?_)
  replace hX := hX.drew
  replace hR := hR.drew
  replace hY := hY.drew
  replace hO5 := hO5.drew
  replace hB5 := hB5.drew
  have hz5 : v4.heap.size + 1 = (v4.alloc (.cells #[.slice A1 s.length c1, .slice A2 r.length c2, .slice A3 h.length c3] 26)).drew.heap.size := by rw [show (v4.alloc (.cells #[.slice A1 s.length c1, .slice A2 r.length c2, .slice A3 h.length c3] 26)).drew.heap.size = (v4.alloc (.cells #[.slice A1 s.length c1, .slice A2 r.length c2, .slice A3 h.length c3] 26)).heap.size from rfl]; simp
  generalize (v4.alloc (.cells #[.slice A1 s.length c1, .slice A2 r.length c2, .slice A3 h.length c3] 26)).drew = W0 at hX hR hY hO5 hB5 hz5 ⊢
  clear hB hO b0 b1 b2 hbs
  change wpAnyH _ _ _ _ _ 14 #[false, false, false, false, false, false, false, false, false, false, false, false, false, false] _ _
  refine wpAnyH_takeL (i := 0) (v := .pointer (some ⟨v4.heap.size, 0, none⟩)) rfl (by kernel_rfl) (by kernel_rfl) (by kernel_rfl) (fun _ _ _ h => h) (Or.inl ⟨by rfl, fun w' _ => by go_simp⟩) trivial ?_
  simp only [Act.put, List.setIfInBounds_toArray, List.set_cons_zero, List.set_cons_succ]
  refine wpAnyH_takeL (i := 2) (v := .string f) rfl (by kernel_rfl) (by kernel_rfl) (by kernel_rfl) (fun _ _ _ h => h) (Or.inl ⟨by rfl, fun w' _ => by go_simp⟩) trivial ?_
  simp only [Act.put, List.setIfInBounds_toArray, List.set_cons_zero, List.set_cons_succ]
  refine wpAnyH_takeL (i := 3) (v := .pointer (some ⟨w.heap.size, 0, none⟩)) rfl (by kernel_rfl) (by kernel_rfl) (by kernel_rfl) (fun _ _ _ h => h) (Or.inl ⟨by rfl, fun w' _ => by go_simp⟩) trivial ?_
  simp only [Act.put, List.setIfInBounds_toArray, List.set_cons_zero, List.set_cons_succ]
  refine wpAnyH_takeL (i := 5) (v := .string f) rfl (by kernel_rfl) (by kernel_rfl) (by kernel_rfl) (fun _ _ _ h => h) (Or.inl ⟨by rfl, fun w' _ => by go_simp⟩) trivial ?_
  simp only [Act.put, List.setIfInBounds_toArray, List.set_cons_zero, List.set_cons_succ]
  refine wpAnyH_takeL (i := 8) (v := .string b) rfl (by kernel_rfl) (by kernel_rfl) (by kernel_rfl) (fun _ _ _ h => h) (Or.inl ⟨by rfl, fun w' _ => by go_simp⟩) trivial ?_
  simp only [Act.put, List.setIfInBounds_toArray, List.set_cons_zero, List.set_cons_succ]
  refine wpAnyH_inv (m := 3) (I := fun n l a W => ∃ x y v32 v35 v37 v38 v40 v41, n + x + y = 6 ∧ x ≤ 1 ∧ y ≤ 5 ∧ l = #[true, decide (1 ≤ x), true, true, decide (1 ≤ y), true, decide (2 ≤ y), decide (3 ≤ y), true, decide (4 ≤ y), decide (5 ≤ y), false, false, false] ∧ a = ⟨#[.agg #[.slice As s.length cs, .slice Ar r.length cr, .slice Ah h.length ch], .string f, .string b, .pointer (some ⟨w.heap.size, 0, none⟩), undef, undef, .pointer (some ⟨w.heap.size + 1, 0, none⟩), .bool false, .pointer (some ⟨v4.heap.size, 0, none⟩), .agg #[.slice As s.length cs, .slice Ar r.length cr, .slice Ah h.length ch], .bool true, .bool false, .bool false, .string f, .bool true, .bool false, .bool false, .bool false, .string b, .bool true, .bool false, .bool false, .bool false, .pointer (some ⟨w.heap.size, 0, none⟩), .slice As s.length cs, .int .i64 s.length, .bool false, .bool false, undef, .agg #[.slice As s.length cs, .slice Ar r.length cr, .slice Ah h.length ch], .agg #[.slice A1 s.length c1, .slice A2 r.length c2, .slice A3 h.length c3], .pointer (some ⟨v4.heap.size, 0, none⟩), v32, .string f, .pointer (some ⟨w.heap.size, 0, none⟩), v35, .string f, v37, v38, .string b, v40, v41, undef, undef, undef], []⟩ ∧ (1 ≤ x → v32 = .slice A1 s.length c1) ∧ (1 ≤ y → v35 = .slice As s.length cs) ∧ (2 ≤ y → v37 = .int .i64 (cntM s f)) ∧ (3 ≤ y → v38 = .int .i64 ((cntM s f : Int) + 1)) ∧ (4 ≤ y → v40 = .agg #[.string f, .int .i64 ((cntM s f : Int) + 1), .string b]) ∧ (5 ≤ y → ∃ g, v41 = .slice (some ⟨g, 0, none⟩) 1 1 ∧ Msgs W 0 W.heap.size (some ⟨g, 0, none⟩) [⟨f, (cntM s f : Int) + 1, b⟩]) ∧ B3 w.heap.size (.slice As s.length cs) (.slice Ar r.length cr) (.slice Ah h.length ch) W ∧ B3 v4.heap.size (.slice A1 s.length c1) (.slice A2 r.length c2) (.slice A3 h.length c3) W ∧ B3 (w.heap.size + 1) (.slice none 0 0) (.slice none 0 0) (.slice none 0 0) W ∧ OwnC W v3.heap.size A1 c1 s A2 c2 r A3 c3 h ∧ Below w.heap.size w W) ?_ ?_ 6 _ _ _ ⟨0, 0, undef, undef, undef, undef, undef, undef, rfl, by omega, by omega, rfl, rfl, by omega, by omega, by omega, by omega, by omega, by omega, hX, hY, hR, hO5, hB5⟩
  · rintro n l a W ⟨x, y, v32, v35, v37, v38, v40, v41, hn, hx, hy, rfl, rfl, e32, e35, e37, e38, e40, e41, hX, hY, hR, hO, hB⟩
    refine ⟨?_, fun i' o ho hi K hK => ?_⟩
    · rcases (by omega : x = 0 ∨ x = 1) with rfl | rfl <;> rcases (by omega : y = 0 ∨ y = 1 ∨ y = 2 ∨ y = 3 ∨ y = 4 ∨ y = 5) with rfl | rfl | rfl | rfl | rfl | rfl <;> first | kernel_rfl | (exfalso; omega)
    · obtain ⟨hun, _⟩ := mem_ready.1 hi
      have hcont := List.contains_iff_mem.2 hi
      have hw : IntKind.i64.wrap ((cntM s f : Int) + 1) = (cntM s f : Int) + 1 := IntWalk.i64_in _ (by omega)
      obtain ⟨z0, z1, z2, _, _, _⟩ := id hX
      obtain ⟨z3, z4, z5, _, _, _⟩ := id hY
      have hi17 : i' = 0 ∨ i' = 1 ∨ i' = 2 ∨ i' = 3 ∨ i' = 4 ∨ i' = 5 ∨ i' = 6 ∨ i' = 7 ∨ i' = 8 ∨ i' = 9 ∨ i' = 10 ∨ i' = 11 ∨ i' = 12 ∨ i' = 13 := by
        have := (List.getElem?_eq_some_iff.1 ho).1
        simp only [List.length_cons, List.length_nil] at this
        omega
      rcases hi17 with rfl | rfl | rfl | rfl | rfl | rfl | rfl | rfl | rfl | rfl | rfl | rfl | rfl | rfl
      · cases hun
      · have hx0 : x = 0 := by have := of_decide_eq_false hun; omega
        subst hx0
        obtain rfl := Option.some.inj ho
        clear ho hi hcont hun
        go_simp
        exact hK.out _ _ trivial ⟨1, y, _, v35, v37, v38, v40, v41, by omega, by omega, by omega, rfl, rfl, fun _ => rfl, e35, e37, e38, e40, e41, hX, hY, hR, hO, hB⟩
      · cases hun
      · cases hun
      · have hy1 : y ≤ 0 := by have := of_decide_eq_false hun; omega
        have hy0 : y = 0 := by
          omega
        subst hy0
        obtain rfl := Option.some.inj ho
        clear ho hi hcont hun
        go_simp
        exact hK.out _ _ trivial ⟨x, 1, v32, _, v37, v38, v40, v41, by omega, by omega, by omega, rfl, rfl, e32, fun _ => rfl, by omega, by omega, by omega, by omega, hX, hY, hR, hO, hB⟩
      · cases hun
      · have hy1 : y ≤ 1 := by have := of_decide_eq_false hun; omega
        have hy0 : y = 1 := by
          rcases (by omega : x = 0 ∨ x = 1) with rfl | rfl <;> rcases (by omega : y = 0 ∨ y = 1) with rfl | rfl <;> first | rfl | exact absurd (hcont.symm.trans (by kernel_rfl : _ = false)) (by decide)
        subst hy0
        obtain rfl := Option.some.inj ho
        clear ho hi hcont hun
        obtain rfl := e35 (by omega)
        go_simp
        go_at_call 32
        refine (raCount_any As cs s f _ hls (hSs.below hB).all).mono ?_
        rintro e V ⟨rfl, hb⟩
        go_simp
        exact hK.out _ _ trivial ⟨x, 2, v32, _, _, v38, v40, v41, by omega, by omega, by omega, rfl, rfl, e32, fun _ => rfl, fun _ => rfl, by omega, by omega, by omega, hX.below hb, hY.below hb, hR.below hb, hO.below hb, Below.on' hB hb⟩
      · have hy1 : y ≤ 2 := by have := of_decide_eq_false hun; omega
        have hy0 : y = 2 := by
          rcases (by omega : x = 0 ∨ x = 1) with rfl | rfl <;> rcases (by omega : y = 0 ∨ y = 1 ∨ y = 2) with rfl | rfl | rfl <;> first | rfl | exact absurd (hcont.symm.trans (by kernel_rfl : _ = false)) (by decide)
        subst hy0
        obtain rfl := Option.some.inj ho
        clear ho hi hcont hun
        obtain rfl := e35 (by omega)
        obtain rfl := e37 (by omega)
        go_simp
        exact hK.out _ _ trivial ⟨x, 3, v32, _, _, _, v40, v41, by omega, by omega, by omega, rfl, rfl, e32, fun _ => rfl, fun _ => rfl, fun _ => rfl, by omega, by omega, hX, hY, hR, hO, hB⟩
      · cases hun
      · have hy1 : y ≤ 3 := by have := of_decide_eq_false hun; omega
        have hy0 : y = 3 := by
          rcases (by omega : x = 0 ∨ x = 1) with rfl | rfl <;> rcases (by omega : y = 0 ∨ y = 1 ∨ y = 2 ∨ y = 3) with rfl | rfl | rfl | rfl <;> first | rfl | exact absurd (hcont.symm.trans (by kernel_rfl : _ = false)) (by decide)
        subst hy0
        obtain rfl := Option.some.inj ho
        clear ho hi hcont hun
        obtain rfl := e35 (by omega)
        obtain rfl := e37 (by omega)
        obtain rfl := e38 (by omega)
        go_simp
        exact hK.out _ _ trivial ⟨x, 4, v32, _, _, _, _, v41, by omega, by omega, by omega, rfl, rfl, e32, fun _ => rfl, fun _ => rfl, fun _ => rfl, fun _ => rfl, by omega, hX, hY, hR, hO, hB⟩
      · have hy1 : y ≤ 4 := by have := of_decide_eq_false hun; omega
        have hy0 : y = 4 := by
          rcases (by omega : x = 0 ∨ x = 1) with rfl | rfl <;> rcases (by omega : y = 0 ∨ y = 1 ∨ y = 2 ∨ y = 3 ∨ y = 4) with rfl | rfl | rfl | rfl | rfl <;> first | rfl | exact absurd (hcont.symm.trans (by kernel_rfl : _ = false)) (by decide)
        subst hy0
        obtain rfl := Option.some.inj ho
        clear ho hi hcont hun
        obtain rfl := e35 (by omega)
        obtain rfl := e37 (by omega)
        obtain rfl := e38 (by omega)
        obtain rfl := e40 (by omega)
        go_simp
        exact hK.out _ _ trivial ⟨x, 5, v32, _, _, _, _, _, by omega, by omega, by omega, rfl, rfl, e32, fun _ => rfl, fun _ => rfl, fun _ => rfl, fun _ => rfl, fun _ => ⟨W.heap.size, rfl, sl_one W ⟨f, (cntM s f : Int) + 1, b⟩⟩, hX.alloc _, hY.alloc _, hR.alloc _, hO.alloc _, hB.alloc hB.size _⟩
      · exfalso
        rcases (by omega : x = 0 ∨ x = 1) with rfl | rfl <;> rcases (by omega : y = 0 ∨ y = 1 ∨ y = 2 ∨ y = 3 ∨ y = 4 ∨ y = 5) with rfl | rfl | rfl | rfl | rfl | rfl <;> first | omega | exact absurd (hcont.symm.trans (by kernel_rfl : _ = false)) (by decide)
      · exfalso
        rcases (by omega : x = 0 ∨ x = 1) with rfl | rfl <;> rcases (by omega : y = 0 ∨ y = 1 ∨ y = 2 ∨ y = 3 ∨ y = 4 ∨ y = 5) with rfl | rfl | rfl | rfl | rfl | rfl <;> first | omega | exact absurd (hcont.symm.trans (by kernel_rfl : _ = false)) (by decide)
      · exfalso
        rcases (by omega : x = 0 ∨ x = 1) with rfl | rfl <;> rcases (by omega : y = 0 ∨ y = 1 ∨ y = 2 ∨ y = 3 ∨ y = 4 ∨ y = 5) with rfl | rfl | rfl | rfl | rfl | rfl <;> first | omega | exact absurd (hcont.symm.trans (by kernel_rfl : _ = false)) (by decide)
  · rintro l a W ⟨x, y, v32, v35, v37, v38, v40, v41, hn, hx, hy, rfl, rfl, e32, e35, e37, e38, e40, e41, hX, hY, hR, hO, hB⟩
    obtain ⟨rfl, rfl⟩ : x = 1 ∧ y = 5 := by omega
    obtain rfl := e32 (by omega)
    obtain ⟨g, rfl, hG⟩ := e41 (by omega)
    have hYl := hY.lt
    change wpAnyH _ _ _ _ _ _ #[true, true, true, true, true, true, true, true, true, true, true, false, false, false] _ _
    refine wpAnyH_ready (rs := [11]) (by kernel_rfl) (by simp) ?_
    refine AllReadyH.consL rfl (fun K hK => ?_) AllReadyH.nil
    rw [if_pos (by rfl)]
    refine wp_append_all W (.tmp 32) (.tmp 41) _ rfl i0 _ _ Try.underlying24 hi0 hz0 hz1 hz2 rfl (by omega) Msg.len Msg.one hO.o1 hG rfl rfl (by simp only [List.length_cons, List.length_nil]; unfold maxLen; omega) (by simp only [List.length_cons, List.length_nil]; omega) (by omega) ?_
    intro A' c' V hOw hbw hbut hd
    rw [hL.out] at hOw ⊢
    refine hK.out _ _ trivial (fun _ => ?_)
    clear hK K
    have hO3 := hO.push1 hOw hbut hd
    have hY3 := hY.same (hbut v4.heap.size hY.lt (fun a ha => hd1 a _ ha rfl))
    have hdN := hd (some ⟨v4.heap.size, 0, none⟩) hd1 (fun a ha => by injection ha with ha; subst ha; exact hYl)
    have hR3 := hR.upto (by omega) hbw
    have hB3 := hB.trans (hbw.mono (by omega))
    obtain ⟨g0, g1, g2, g3, g4, g5⟩ := id hY3
    refine wpAnyH_takeL (i := 12) (v := .pointer (some ⟨v4.heap.size, 0, none⟩)) rfl (by kernel_rfl) (by kernel_rfl) (by kernel_rfl) (fun _ _ _ h => h) (Or.inl ⟨by rfl, fun w' _ => by go_simp⟩) trivial ?_
    simp only [Act.put, List.setIfInBounds_toArray, List.set_cons_zero, List.set_cons_succ]
    refine wpAnyH_ready (rs := [13]) (by kernel_rfl) (by simp) ?_
    refine AllReadyH.consL rfl (fun K hK => ?_) AllReadyH.nil
    go_simp
    refine hK.out _ _ trivial (fun _ => ?_)
    clear hK K
    refine wpAnyH_done (by kernel_rfl) ?_ _
    have hFg : Fr v4.heap.size (v4.heap.size + 1) V (V.setCell ⟨v4.heap.size, 0, none⟩ (.slice A' L.length c')) := (Fr.refl _ _ _).setCell ⟨by simp, by simp⟩ _
    replace hO := hO3.apart hFg hdN hd2 hd3
    replace hY := hY3.set0 (.slice A' L.length c')
    replace hR := hR3.off (p := ⟨v4.heap.size, 0, none⟩) (by simp; omega) (.slice A' L.length c')
    have hszV : v4.heap.size < V.heap.size := hY3.lt
    replace hB := hB3.trans (hFg.below (B := w.heap.size) (by omega) (by omega))
    obtain ⟨y0, y1, y2, _, _, _⟩ := id hY
    clear hY3 hO3 hR3 hB3 hOw hbw hbut hd hX
    obtain ⟨k0, k1, k2, f0, f1, f2⟩ := id hR
    have hR' := ((hR.set0 (.slice A' L.length c')).set1 (.slice A2 r.length c2)).set2 (.slice A3 h.length c3)
    have hF : Fr (w.heap.size + 1) ((w.heap.size + 1) + 1) (V.setCell ⟨v4.heap.size, 0, none⟩ (.slice A' L.length c')) ((((V.setCell ⟨v4.heap.size, 0, none⟩ (.slice A' L.length c')).setCell ⟨(w.heap.size + 1), 0, none⟩ (.slice A' L.length c')).setCell ⟨(w.heap.size + 1), 1, none⟩ (.slice A2 r.length c2)).setCell ⟨(w.heap.size + 1), 2, none⟩ (.slice A3 h.length c3)) := (((Fr.refl _ _ _).setCell ⟨by simp, by simp⟩ _).setCell ⟨by simp, by simp⟩ _).setCell ⟨by simp, by simp⟩ _
    have hB' := hB.trans (hF.below (B := w.heap.size) (by omega) (by have := hB.size; omega))
    have hO' := (hO.far hF (by omega)).lift (b0 := w.heap.size) (by omega); have hI := hO'.ints hB'.size
    obtain ⟨x0, x1, x2, _, _, _⟩ := id hR'
    go_wp2
    refine bodyPost_ret (by simp [results, Try.results7, go_sem, x0, x1, x2]; try rfl) rfl ?_
    obtain rfl := hL.out
    exact ⟨A', c', A2, c2, A3, c3, rfl, hI, hB'⟩
theorem IntC.fr {w w' : World} {base b0 lo hi : Nat} {A1 A2 A3 : Option Addr} {s r h : List Msg} (o : IntC w base A1 s A2 r A3 h) (hF : Fr lo hi w w') (hd : hi ≤ base) (hb : b0 ≤ base) : IntC w' b0 A1 s A2 r A3 h := by
  obtain ⟨l1, h1, l2, h2, l3, h3, S1, S2, S3, B1, B2, B3, d⟩ := o
  have := hF.size
  exact ⟨l1, h1, l2, h2, l3, h3, S1.fr hF (by omega), S2.fr hF (by omega), S3.fr hF (by omega), ⟨by omega, B1.2.1, by omega⟩, ⟨by omega, B2.2.1, by omega⟩, ⟨by omega, B3.2.1, by omega⟩, d⟩
def sndU (s r h : List Msg) (f b : ByteArray) : (List Msg × List Msg × List Msg) × Bool := if s.length = 30 then chNo else ((s ++ [⟨f, (cntM s f : Int) + 1, b⟩], r, h), true)
theorem sndT_U {s r h : List Msg} {f b : ByteArray} (g1 : chanB s r h = true) (g2 : nameB f = true) (g3 : bodyB b = true) : sndU s r h f b = sndT s r h f b := by
  unfold sndU sndT sndOk
  rw [g1, g2, g3]
  by_cases h : s.length = 30 <;> simp [h]
set_option maxRecDepth 100000 in
set_option maxHeartbeats 8000000 in
theorem sendMessage_any (pb po : Nat) (As : Option Addr) (cs : Nat) (s : List Msg) (Ar : Option Addr) (cr : Nat) (r : List Msg) (Ah : Option Addr) (ch : Nat) (h : List Msg) (f b : ByteArray) (w : World) (hX : C3 pb po (.slice As s.length cs) (.slice Ar r.length cr) (.slice Ah h.length ch) w) (hls : s.length ≤ 1048576) (hSs : Msgs w 0 w.heap.size As s) (hlr : r.length ≤ 1048576) (hSr : Msgs w 0 w.heap.size Ar r) (hlh : h.length ≤ 1048576) (hSh : Msgs w 0 w.heap.size Ah h) :
    Calls Try.prog 27 #[.pointer (some ⟨pb, po, none⟩), .string f, .string b] w (RCT w (sndU s r h f b)) := by
  obtain ⟨i0, hi0, hz0, hz1, hz2⟩ := info_parts Msg.info
  generalize hT : sndU s r h f b = t
  replace hT := Lib.hid hT
  have hR0 := B3.new w (.slice none 0 0) (.slice none 0 0) (.slice none 0 0) 26 _ rfl
  have hX0 := hX.alloc (.cells #[.slice none 0 0, .slice none 0 0, .slice none 0 0] 26)
  have hB0 : Below w.heap.size w (w.alloc (.cells #[.slice none 0 0, .slice none 0 0, .slice none 0 0] 26)) := by go_grown
  obtain ⟨b0, b1, b2, _, _, _⟩ := id hX0
  have hpb := hX.lt
  go_enter Try.func27, Try.ntmps27
  go_wp2_with fail
  go_loopw [8, 17] (fun o i wr => ∃ (k : Nat) (v : Int), k ≤ s.length ∧ i = .int .i64 k ∧ o = .int .i64 v ∧ 1 ≤ v ∧ v ≤ k + 1 ∧ Hid (v = cntM (s.take k) f + 1) ∧ C3 pb po (.slice As s.length cs) (.slice Ar r.length cr) (.slice Ah h.length ch) wr ∧ B3 w.heap.size (.slice none 0 0) (.slice none 0 0) (.slice none 0 0) wr ∧ Below w.heap.size w wr) (fun _ i _ => s.length - (intOf i).toNat)
  case atStart => exact ⟨0, 1, Nat.zero_le _, rfl, rfl, by omega, by omega, Lib.hid (by simp [cntM]), hX0, hR0, hB0⟩
  case round =>
    obtain ⟨k, v, hk, rfl, rfl, hv0, hv1, HF, hX, hR, hB⟩ := hrel
    clear hX0 b0 b1 b2 hR0 hB0
    have hz := hB.size
    by_cases hlt : k < s.length
    · obtain ⟨x, hx, _⟩ := get_lt hlt
      have HC := Lib.hid (cntM_step hx f)
      obtain ⟨b', off, rfl, _, kb, _, hf⟩ := (hSs.below hB).at_ hx
      have c0 : wr.cell? ⟨b', off + k * 3, none⟩ = some (.string x.f) := (hf 0 _ rfl).1
      have c1 : wr.cell? ⟨b', off + k * 3 + 1, none⟩ = some (.int .i64 x.n) := (hf 1 _ rfl).1
      have c2 : wr.cell? ⟨b', off + k * 3 + 2, none⟩ = some (.string x.b) := (hf 2 _ rfl).1
      clear hf hx
      replace hX := hX.alloc (.cells #[.string x.f, .int .i64 x.n, .string x.b] 33)
      replace hR := hR.alloc (.cells #[.string x.f, .int .i64 x.n, .string x.b] 33)
      by_cases q : x.f.toList = f.toList
      · have HD : Hid (v + 1 = cntM (s.take (k + 1)) f + 1) := Lib.hid (by rw [HC.out, HF.out, if_pos q])
        clear HC HF
        go_wp2
        go_roundw
        case rel => exact ⟨k + 1, v + 1, by omega, by go_num, by go_num, by omega, by omega, HD, hX, hR, by go_grown⟩
        case measure => simp [intOf]; omega
      · have HD : Hid (v = cntM (s.take (k + 1)) f + 1) := Lib.hid (by rw [HC.out, HF.out, if_neg q]; simp)
        have qb : (x.f.toList == f.toList) = false := by simpa using q
        clear HC HF q
        go_wp2
        go_roundw
        case rel => exact ⟨k + 1, v, by omega, by go_num, by go_num, by omega, by omega, HD, hX, hR, by go_grown⟩
        case measure => simp [intOf]; omega
    · obtain rfl : k = s.length := by omega
      rw [List.take_length] at HF
      obtain ⟨b0, b1, b2, _, _, _⟩ := id hX
      by_cases g4 : s.length = 30
      · have g4' : (s.length : Int) = 30 := by omega
        obtain rfl : chNo = t := by rw [← hT.out, sndU, if_pos g4]
        clear hT g4
        obtain ⟨k0, k1, k2, f0, f1, f2⟩ := id hR
        have hR' := ((hR.set0 (.slice none 0 0)).set1 (.slice none 0 0)).set2 (.slice none 0 0)
        have hF : Fr w.heap.size (w.heap.size + 1) wr (((wr.setCell ⟨w.heap.size, 0, none⟩ (.slice none 0 0)).setCell ⟨w.heap.size, 1, none⟩ (.slice none 0 0)).setCell ⟨w.heap.size, 2, none⟩ (.slice none 0 0)) := (((Fr.refl _ _ _).setCell ⟨by simp, by simp⟩ _).setCell ⟨by simp, by simp⟩ _).setCell ⟨by simp, by simp⟩ _
        have hB' := hB.trans (hF.below (B := w.heap.size) (by omega) (by have := hB.size; omega))
        have hI := IntC.nil_ _ (base := w.heap.size) hB'.size
        obtain ⟨x0, x1, x2, _, _, _⟩ := id hR'
        go_wp2
        refine bodyPost_ret (by simp [results, Try.results27, go_sem, x0, x1, x2]; try rfl) rfl ?_
        exact ⟨none, 0, none, 0, none, 0, rfl, hI, hB'⟩
      have g4' : ((s.length : Int) == 30) = false := by simp; omega
      have g4'n := g4
      have hzz := hR.lt
      go_wp2_with fail
      refine (copyChannel_any pb po As cs s Ar cr r Ah ch h _ hX hls (hSs.below hB).all hlr (hSr.below hB).all hlh (hSh.below hB).all).mono ?_
      rintro e v1 ⟨A1, c1, A2, c2, A3, c3, rfl, hO, hb⟩
      have hz4 := hb.size
      replace hB := (Below.on' hB hb)
      replace hR := hR.below hb
      clear b0 b1 b2 hb hX
      have hY := B3.new v1 (.slice A1 s.length c1) (.slice A2 r.length c2) (.slice A3 h.length c3) 26 _ rfl
      have hd1 := dis_lt hO.o1.blk
      have hd2 := dis_lt hO.o2.blk
      have hd3 := dis_lt hO.o3.blk
      replace hR := hR.alloc (.cells #[.slice A1 s.length c1, .slice A2 r.length c2, .slice A3 h.length c3] 26)
      replace hB := hB.alloc hB.size (.cells #[.slice A1 s.length c1, .slice A2 r.length c2, .slice A3 h.length c3] 26)
      replace hO := hO.alloc (.cells #[.slice A1 s.length c1, .slice A2 r.length c2, .slice A3 h.length c3] 26)
      have e1 : (v1.alloc (.cells #[.slice A1 s.length c1, .slice A2 r.length c2, .slice A3 h.length c3] 26)).heap.size = v1.heap.size + 1 := by simp
      obtain ⟨y0, y1, y2, f0, f1, f2⟩ := id hY
      obtain ⟨g0, g1, g2, g3, g4, g5⟩ := id hR
      go_wp2_with (at_builtin; refine wpList_append_one2 _ rfl (.tmp 38) (.tmp 43) _ rfl i0 _ _ Try.underlying24 hi0 hz0 hz1 hz2 rfl (by omega) Msg.len Msg.one ⟨f, v, b⟩ _ (hO.o1.alloc _) rfl rfl (new_cells_at _ _ _ _ _ (by simp) rfl) (by unfold maxLen; first | omega | (simp; omega)) (by first | omega | (simp; omega)) (by simp; omega) ?_; intro A' c' w' L' hL' hOw hbw hbut hd; have hO3 := (hO.below ((Below.refl _ _).alloc (Nat.le_refl _) _)).push1 hOw hbut hd; have hY3 := (hY.alloc _).same (hbut _ (hY.alloc _).lt (fun a ha => hd1 a _ ha rfl)); have hR3 := (hR.alloc _).upto (by omega) hbw; have hB3 := (hB.alloc hB.size _).trans (hbw.mono (by omega)); have hdN := hd (some ⟨v1.heap.size, 0, none⟩) hd1 (fun a ha => by injection ha with ha; subst ha; simp; omega); have hFg : Fr v1.heap.size (v1.heap.size + 1) w' (w'.setCell ⟨v1.heap.size, 0, none⟩ (.slice A' L'.length c')) := (Fr.refl _ _ _).setCell ⟨by simp, by simp⟩ _; have hO4 := hO3.apart hFg hdN hd2 hd3; have hY4 := hY3.set0 (.slice A' L'.length c'); have hR4 := hR3.off (p := ⟨v1.heap.size, 0, none⟩) (by simp; omega) (.slice A' L'.length c'); have hB4 := hB3.trans (hFg.below (B := w.heap.size) (by omega) (by have := hB3.size; omega)); clear hO hY hR hB hO3 hB3 hFg hOw hbw hbut hd g0 g1 g2 g3 g4 g5 f0 f1 f2 y0 y1 y2; obtain ⟨g0, g1, g2, g3, g4, g5⟩ := id hY3; obtain ⟨y0, y1, y2, _, _, _⟩ := id hY4; obtain ⟨q0, q1, q2, q3, q4, q5⟩ := id hR3; have hR := hR4; have hB := hB4; have hO := hO4; clear hY3 hY4 hR3 hR4 hB4 hO4; obtain ⟨k0, k1, k2, f0, f1, f2⟩ := id hR; have hR' := ((hR.set0 (.slice A' L'.length c')).set1 (.slice A2 r.length c2)).set2 (.slice A3 h.length c3); have hF : Fr w.heap.size (w.heap.size + 1) (w'.setCell ⟨v1.heap.size, 0, none⟩ (.slice A' L'.length c')) ((((w'.setCell ⟨v1.heap.size, 0, none⟩ (.slice A' L'.length c')).setCell ⟨w.heap.size, 0, none⟩ (.slice A' L'.length c')).setCell ⟨w.heap.size, 1, none⟩ (.slice A2 r.length c2)).setCell ⟨w.heap.size, 2, none⟩ (.slice A3 h.length c3)) := (((Fr.refl _ _ _).setCell ⟨by simp, by simp⟩ _).setCell ⟨by simp, by simp⟩ _).setCell ⟨by simp, by simp⟩ _; have hB' := hB.trans (hF.below (B := w.heap.size) (by omega) (by have := hB.size; omega)); have hO' := (hO.far hF (by omega)).lift (b0 := w.heap.size) (by omega); obtain ⟨x0, x1, x2, _, _, _⟩ := id hR')
      obtain rfl : ((L', r, h), true) = t := by rw [hL'.out, ← hT.out, sndU, if_neg g4'n, HF.out]
      refine bodyPost_ret (by simp [results, Try.results27, go_sem, x0, x1, x2]; try rfl) rfl ?_
      exact ⟨A', c', A2, c2, A3, c3, rfl, hO'.ints hB'.size, hB'⟩
set_option maxRecDepth 100000 in
set_option maxHeartbeats 8000000 in
theorem SendMessage_impl (As : Option Addr) (cs : Nat) (s : List Msg) (Ar : Option Addr) (cr : Nat) (r : List Msg) (Ah : Option Addr) (ch : Nat) (h : List Msg) (f b : ByteArray) (w : World) (hls : s.length ≤ 1048576) (hms : ∀ y ∈ s, y.f.size ≤ 1048576 ∧ y.b.size ≤ 1048576) (hSs : Msgs w 0 w.heap.size As s) (hcs : s.length ≤ cs) (hlr : r.length ≤ 1048576) (hmr : ∀ y ∈ r, y.f.size ≤ 1048576 ∧ y.b.size ≤ 1048576) (hSr : Msgs w 0 w.heap.size Ar r) (hcr : r.length ≤ cr) (hlh : h.length ≤ 1048576) (hmh : ∀ y ∈ h, y.f.size ≤ 1048576 ∧ y.b.size ≤ 1048576) (hSh : Msgs w 0 w.heap.size Ah h) (hch : h.length ≤ ch) (hsf : f.size ≤ 1048576) (hsb : b.size ≤ 1048576) :
    Calls Try.prog 6 #[.agg #[.slice As s.length cs, .slice Ar r.length cr, .slice Ah h.length ch], .string f, .string b] w (RCT w (sndT s r h f b)) := by
  generalize hT : sndT s r h f b = t
  replace hT := Lib.hid hT
  have e1 : (w.alloc (.cells #[.slice As s.length cs, .slice Ar r.length cr, .slice Ah h.length ch] 26)).heap.size = w.heap.size + 1 := by simp
  have hX := (B3.new w (.slice As s.length cs) (.slice Ar r.length cr) (.slice Ah h.length ch) 26 _ rfl).alloc (.cells #[.slice none 0 0, .slice none 0 0, .slice none 0 0] 26)
  have hR := B3.new (w.alloc (.cells #[.slice As s.length cs, .slice Ar r.length cr, .slice Ah h.length ch] 26)) (.slice none 0 0) (.slice none 0 0) (.slice none 0 0) 26 (w.heap.size + 1) e1.symm
  obtain ⟨b0, b1, b2, _, _, _⟩ := id hX
  go_enter Try.func6, Try.ntmps6
  go_wp2_with fail
  refine (isChannel_any w.heap.size 0 As cs s Ar cr r Ah ch h _ hX.c3 hls hms ((hSs.alloc _).alloc _).all hcs hlr hmr ((hSr.alloc _).alloc _).all hcr hlh hmh ((hSh.alloc _).alloc _).all hch).mono ?_
  rintro e v1 ⟨rfl, hb⟩
  have hB : Below w.heap.size w v1 := Below.on' (by go_grown) hb
  replace hX := hX.below hb
  replace hR := hR.below hb
  clear b0 b1 b2 e1 hb
  obtain ⟨b0, b1, b2, _, _, _⟩ := id hX
  by_cases g : chanB s r h = true
  rotate_left
  · have g : chanB s r h = false := by simpa using g
    obtain rfl : chNo = t := (sndT_no (by rw [sndOk, g]; rfl)).trans hT.out
    rw [g]
    obtain ⟨k0, k1, k2, f0, f1, f2⟩ := id hR
    have hR' := ((hR.set0 (.slice none 0 0)).set1 (.slice none 0 0)).set2 (.slice none 0 0)
    have hF : Fr (w.heap.size + 1) ((w.heap.size + 1) + 1) v1 (((v1.setCell ⟨(w.heap.size + 1), 0, none⟩ (.slice none 0 0)).setCell ⟨(w.heap.size + 1), 1, none⟩ (.slice none 0 0)).setCell ⟨(w.heap.size + 1), 2, none⟩ (.slice none 0 0)) := (((Fr.refl _ _ _).setCell ⟨by simp, by simp⟩ _).setCell ⟨by simp, by simp⟩ _).setCell ⟨by simp, by simp⟩ _
    have hB' := hB.trans (hF.below (B := w.heap.size) (by omega) (by have := hB.size; omega))
    have hI := IntC.nil_ _ (base := w.heap.size) hB'.size
    obtain ⟨x0, x1, x2, _, _, _⟩ := id hR'
    go_wp2
    refine bodyPost_ret (by simp [results, Try.results6, go_sem, x0, x1, x2]; try rfl) rfl ?_
    exact ⟨none, 0, none, 0, none, 0, rfl, hI, hB'⟩
  rw [g]
  go_wp2_with fail
  refine (isName_any f _ hsf).mono ?_
  rintro e v2 ⟨rfl, hb⟩
  replace hB := Below.on' hB hb
  replace hX := hX.below hb
  replace hR := hR.below hb
  clear b0 b1 b2 hb
  obtain ⟨b0, b1, b2, _, _, _⟩ := id hX
  by_cases g2 : nameB f = true
  rotate_left
  · have g2 : nameB f = false := by simpa using g2
    obtain rfl : chNo = t := (sndT_no (by rw [sndOk, g, g2]; rfl)).trans hT.out
    rw [g2]
    obtain ⟨k0, k1, k2, f0, f1, f2⟩ := id hR
    have hR' := ((hR.set0 (.slice none 0 0)).set1 (.slice none 0 0)).set2 (.slice none 0 0)
    have hF : Fr (w.heap.size + 1) ((w.heap.size + 1) + 1) v2 (((v2.setCell ⟨(w.heap.size + 1), 0, none⟩ (.slice none 0 0)).setCell ⟨(w.heap.size + 1), 1, none⟩ (.slice none 0 0)).setCell ⟨(w.heap.size + 1), 2, none⟩ (.slice none 0 0)) := (((Fr.refl _ _ _).setCell ⟨by simp, by simp⟩ _).setCell ⟨by simp, by simp⟩ _).setCell ⟨by simp, by simp⟩ _
    have hB' := hB.trans (hF.below (B := w.heap.size) (by omega) (by have := hB.size; omega))
    have hI := IntC.nil_ _ (base := w.heap.size) hB'.size
    obtain ⟨x0, x1, x2, _, _, _⟩ := id hR'
    go_wp2
    refine bodyPost_ret (by simp [results, Try.results6, go_sem, x0, x1, x2]; try rfl) rfl ?_
    exact ⟨none, 0, none, 0, none, 0, rfl, hI, hB'⟩
  rw [g2]
  go_wp2_with fail
  refine (isBody_any b _ hsb).mono ?_
  rintro e v3 ⟨rfl, hb⟩
  replace hB := Below.on' hB hb
  replace hX := hX.below hb
  replace hR := hR.below hb
  clear b0 b1 b2 hb
  obtain ⟨b0, b1, b2, _, _, _⟩ := id hX
  by_cases g3 : bodyB b = true
  rotate_left
  · have g3 : bodyB b = false := by simpa using g3
    obtain rfl : chNo = t := (sndT_no (by rw [sndOk, g, g2, g3]; rfl)).trans hT.out
    rw [g3]
    obtain ⟨k0, k1, k2, f0, f1, f2⟩ := id hR
    have hR' := ((hR.set0 (.slice none 0 0)).set1 (.slice none 0 0)).set2 (.slice none 0 0)
    have hF : Fr (w.heap.size + 1) ((w.heap.size + 1) + 1) v3 (((v3.setCell ⟨(w.heap.size + 1), 0, none⟩ (.slice none 0 0)).setCell ⟨(w.heap.size + 1), 1, none⟩ (.slice none 0 0)).setCell ⟨(w.heap.size + 1), 2, none⟩ (.slice none 0 0)) := (((Fr.refl _ _ _).setCell ⟨by simp, by simp⟩ _).setCell ⟨by simp, by simp⟩ _).setCell ⟨by simp, by simp⟩ _
    have hB' := hB.trans (hF.below (B := w.heap.size) (by omega) (by have := hB.size; omega))
    have hI := IntC.nil_ _ (base := w.heap.size) hB'.size
    obtain ⟨x0, x1, x2, _, _, _⟩ := id hR'
    go_wp2
    refine bodyPost_ret (by simp [results, Try.results6, go_sem, x0, x1, x2]; try rfl) rfl ?_
    exact ⟨none, 0, none, 0, none, 0, rfl, hI, hB'⟩
  rw [g3]
  obtain rfl : sndU s r h f b = t := (sndT_U g g2 g3).trans hT.out
  clear hT g g2 g3
  go_wp2_with fail
  refine (sendMessage_any w.heap.size 0 As cs s Ar cr r Ah ch h f b _ hX.c3 hls (hSs.below hB).all hlr (hSr.below hB).all hlh (hSh.below hB).all).mono ?_
  rintro e v4 ⟨A1, c1, A2, c2, A3, c3, rfl, hI0, hb⟩
  have hz := hR.lt
  replace hB := Below.on' hB hb
  replace hR := hR.below hb
  clear b0 b1 b2 hb hX
  obtain ⟨k0, k1, k2, f0, f1, f2⟩ := id hR
  have hR' := ((hR.set0 (.slice A1 (sndU s r h f b).1.1.length c1)).set1 (.slice A2 (sndU s r h f b).1.2.1.length c2)).set2 (.slice A3 (sndU s r h f b).1.2.2.length c3)
  have hF : Fr (w.heap.size + 1) ((w.heap.size + 1) + 1) v4 (((v4.setCell ⟨(w.heap.size + 1), 0, none⟩ (.slice A1 (sndU s r h f b).1.1.length c1)).setCell ⟨(w.heap.size + 1), 1, none⟩ (.slice A2 (sndU s r h f b).1.2.1.length c2)).setCell ⟨(w.heap.size + 1), 2, none⟩ (.slice A3 (sndU s r h f b).1.2.2.length c3)) := (((Fr.refl _ _ _).setCell ⟨by simp, by simp⟩ _).setCell ⟨by simp, by simp⟩ _).setCell ⟨by simp, by simp⟩ _
  have hB' := hB.trans (hF.below (B := w.heap.size) (by omega) (by have := hB.size; omega))
  have hI := hI0.fr hF (b0 := w.heap.size) (by omega) (by omega)
  obtain ⟨x0, x1, x2, _, _, _⟩ := id hR'
  go_wp2
  refine bodyPost_ret (by simp [results, Try.results6, go_sem, x0, x1, x2]; try rfl) rfl ?_
  exact ⟨A1, c1, A2, c2, A3, c3, rfl, hI, hB'⟩
end Go.Proofs.Ytacjdapfbmdddaa

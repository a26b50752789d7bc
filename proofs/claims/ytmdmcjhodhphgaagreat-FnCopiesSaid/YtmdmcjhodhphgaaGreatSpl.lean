/- Splitting a list of entries by room, merging two, and the entries of one room. Conditions: lists and texts of at most 2^20. -/
import Derived.Test.YtmdmcjhodhphgaaGreatSrt
namespace Go.Proofs.YtmdmcjhodhphgaaGreat
open Go.RowKit

set_option maxHeartbeats 1000000 in
theorem mgBefore_any (x y : Ent) (w : World) : Calls Tryz.prog 62 #[.agg #[.int .i64 x.r, .int .i64 x.n, .int .i64 x.m, .string x.t], .agg #[.int .i64 y.r, .int .i64 y.n, .int .i64 y.m, .string y.t]] w (RV w (.bool (befB x y))) := by
  by_cases hm : x.m = y.m
  · by_cases hr : x.r = y.r
    · have HF : Hid (decide (x.n < y.n) = befB x y) := Lib.hid (by unfold befB; rw [if_pos hm, if_pos hr])
      go_enter Tryz.func62, Tryz.ntmps62
      go_wp2
      go_ret
      exact RV.mk (by rw [← HF.out]; rfl) (by go_grown)
    · have HF : Hid (decide (x.r < y.r) = befB x y) := Lib.hid (by unfold befB; rw [if_pos hm, if_neg hr])
      go_enter Tryz.func62, Tryz.ntmps62
      go_wp2
      go_ret
      exact RV.mk (by rw [← HF.out]; rfl) (by go_grown)
  · have HF : Hid (decide (x.m < y.m) = befB x y) := Lib.hid (by unfold befB; rw [if_neg hm])
    go_enter Tryz.func62, Tryz.ntmps62
    go_wp2
    go_ret
    exact RV.mk (by rw [← HF.out]; rfl) (by go_grown)
set_option maxHeartbeats 1000000 in
theorem mgOf_any (A : Option Addr) (c : Nat) (l : List Ent) (room : Int) (w : World) (hl : l.length ≤ 1048576) (hS : Ents w 0 w.heap.size A l) :
    Calls Tryz.prog 39 #[.slice A l.length c, .int .i64 room] w (RV w (.bool (ofB l room))) := by
  go_enter Tryz.func39, Tryz.ntmps39
  cases l with
  | nil =>
    go_wp2
    go_ret
    exact RV.mk rfl (Below.refl _ _)
  | cons x l =>
    obtain ⟨b, off, rfl, _, _, _, hf⟩ := hS.at_ (i := 0) (x := x) rfl
    have c0 : w.cell? ⟨b, off, none⟩ = some (.int .i64 x.r) := by
      have := (hf 0 _ rfl).1
      rw [Nat.zero_mul] at this
      exact this
    clear hf
    have h0 : (0 : Int) < (x :: l).length := by simp only [List.length_cons]; omega
    have h1 : (((x :: l).length : Int) == 0) = false := beq_eq_false_iff_ne.2 (by omega)
    have h2 : ofB (x :: l) room = decide (x.r = room) := rfl
    rw [h2]
    clear h2
    generalize (x :: l).length = n at hl h0 h1 ⊢
    go_wp2
    all_goals go_ret
    all_goals exact RV.mk (by first | rfl | (simp; done) | skip) (Below.refl _ _)
/-- The call returned two slices in new memory. -/
def RSS (w : World) (R R' : List Ent) (e : Ending) (w' : World) : Prop :=
  ∃ A c A' c', e = .returned (.tuple #[.slice A R.length c, .slice A' R'.length c']) ∧ Ents w' w.heap.size w'.heap.size A R ∧ Ents w' w.heap.size w'.heap.size A' R' ∧ R.length ≤ c ∧ R'.length ≤ c' ∧ Below w.heap.size w w'
theorem new_cells2 (w : World) (T : TypeId) (y : Ent) (cs : Array Value) (B : Nat) (h : cs = y.cells.toArray) (hB : w.heap.size = B) : ∀ j u, (y.cells)[j]? = some u → (w.alloc (.cells cs T)).cell? ⟨B, j, none⟩ = some u := by
  subst hB
  exact new_cells w T y cs h
theorem of1_snoc (l : List Ent) (x : Ent) : of1 (l ++ [x]) = if x.r = 1 then of1 l ++ [x] else of1 l := by
  unfold of1
  rw [List.filter_append]
  by_cases h : x.r = 1 <;> simp [h]
theorem not1_snoc (l : List Ent) (x : Ent) : not1 (l ++ [x]) = if x.r = 1 then not1 l else not1 l ++ [x] := by
  unfold not1
  rw [List.filter_append]
  by_cases h : x.r = 1 <;> simp [h]
set_option maxRecDepth 100000 in
set_option maxHeartbeats 4000000 in
theorem mgSplit_any (A : Option Addr) (c : Nat) (l : List Ent) (w : World) (hl : l.length ≤ 1048576) (hS : Ents w 0 w.heap.size A l) :
    Calls Tryz.prog 65 #[.slice A l.length c] w (RSS w (of1 l) (not1 l)) := by
  obtain ⟨i0, hi0, hz0, hz1, hz2⟩ := info_parts Ent.info
  go_enter Tryz.func65, Tryz.ntmps65
  go_wp2_with fail
  go_loopw [4, 5, 10] (fun s4 s5 i wr => ∃ (k : Nat) (A1 A2 : Option Addr) (c1 c2 : Nat) (r1 r2 : List Ent), k ≤ l.length ∧ i = .int .i64 k ∧ s4 = .slice A1 r1.length c1 ∧ s5 = .slice A2 r2.length c2 ∧ r1.length ≤ k ∧ r2.length ≤ k ∧ Hid (r1 = of1 (l.take k) ∧ r2 = not1 (l.take k)) ∧ Own Ent.cells 4 38 wr w.heap.size A1 c1 r1 ∧ Own Ent.cells 4 38 wr w.heap.size A2 c2 r2 ∧ Dis A1 A2 ∧ Below w.heap.size w wr) (fun _ _ i _ => l.length - (intOf i).toNat)
  case atStart => exact ⟨0, none, none, 0, 0, [], [], Nat.zero_le _, rfl, rfl, rfl, Nat.zero_le _, Nat.zero_le _, Lib.hid ⟨rfl, rfl⟩, Own.nil_, Own.nil_, Dis.none_l, Below.refl _ _⟩
  case round =>
    obtain ⟨k, A1, A2, p1, p2, r1, r2, hk, rfl, rfl, rfl, hr1, hr2, HR, hO1, hO2, hD, hB⟩ := hrel
    by_cases hlt : k < l.length
    · obtain ⟨x, hx, _⟩ := get_lt hlt
      obtain ⟨b, off, rfl, _, _, _, hf⟩ := (hS.below hB).at_ hx
      have c0 : wr.cell? ⟨b, off + k * 4, none⟩ = some (.int .i64 x.r) := (hf 0 _ rfl).1
      have c1 : wr.cell? ⟨b, off + k * 4 + 1, none⟩ = some (.int .i64 x.n) := (hf 1 _ rfl).1
      have c2 : wr.cell? ⟨b, off + k * 4 + 2, none⟩ = some (.int .i64 x.m) := (hf 2 _ rfl).1
      have c3 : wr.cell? ⟨b, off + k * 4 + 3, none⟩ = some (.string x.t) := (hf 3 _ rfl).1
      have hts := Lib.hid (take_snoc hx)
      have hz := hB.size
      clear hf hx
      by_cases hq : x.r = 1
      · have HR2 : Hid (r1 ++ [x] = of1 (l.take (k + 1)) ∧ r2 = not1 (l.take (k + 1))) := Lib.hid (by
          rw [hts.out, of1_snoc, not1_snoc, if_pos hq, if_pos hq, ← HR.out.1, ← HR.out.2]; exact ⟨rfl, rfl⟩)
        obtain ⟨xr, xn, xm, xt⟩ := x
        dsimp only at hq c0 c1 c2 c3
        subst hq
        have o2 := (hO2.alloc (.cells #[.int .i64 1, .int .i64 xn, .int .i64 xm, .string xt] 38)).alloc (.cells #[.int .i64 1, .int .i64 xn, .int .i64 xm, .string xt] 38)
        have o1 := (hO1.alloc (.cells #[.int .i64 1, .int .i64 xn, .int .i64 xm, .string xt] 38)).alloc (.cells #[.int .i64 1, .int .i64 xn, .int .i64 xm, .string xt] 38)
        go_wp2_with (at_builtin; refine wpList_append_one2 _ rfl (.tmp 17) (.tmp 19) _ rfl i0 _ _ Tryz.underlying24 hi0 hz0 hz1 hz2 rfl (by omega) Ent.len Ent.one (⟨1, xn, xm, xt⟩ : Ent) _ o1 rfl rfl (new_cells2 _ _ _ _ _ rfl (by simp)) (by unfold maxLen; omega) (by omega) (by simp; omega) ?_; intro A' c' wb L hL hO hb2 hbut hdis)
        have o3 := o2.but hbut hD
        have hD2 := hdis A2 hD o2.lt
        have hlen : L.length = r1.length + 1 := by rw [hL.out]; simp
        have hlen2 : L.length ≤ k + 1 := by omega
        have HR3 : Hid (L = of1 (l.take (k + 1)) ∧ r2 = not1 (l.take (k + 1))) := Lib.hid (by rw [hL.out]; exact HR2.out)
        have hB2 : Below w.heap.size w wb := Below.trans (by go_grown) hb2
        clear hlen o1 o2 hO1 hO2 hbut hdis HR2 HR hL hts hb2
        go_roundw
        case rel => exact ⟨k + 1, A', A2, c', p2, L, r2, by omega, by go_num, rfl, rfl, hlen2, by omega, HR3, hO, o3, hD2, hB2⟩
        case measure => simp [intOf]; omega
      · have HR2 : Hid (r1 = of1 (l.take (k + 1)) ∧ r2 ++ [x] = not1 (l.take (k + 1))) := Lib.hid (by
          rw [hts.out, of1_snoc, not1_snoc, if_neg hq, if_neg hq, ← HR.out.1, ← HR.out.2]; exact ⟨rfl, rfl⟩)
        have o2 := (hO2.alloc (.cells #[.int .i64 x.r, .int .i64 x.n, .int .i64 x.m, .string x.t] 38)).alloc (.cells #[.int .i64 x.r, .int .i64 x.n, .int .i64 x.m, .string x.t] 38)
        have o1 := (hO1.alloc (.cells #[.int .i64 x.r, .int .i64 x.n, .int .i64 x.m, .string x.t] 38)).alloc (.cells #[.int .i64 x.r, .int .i64 x.n, .int .i64 x.m, .string x.t] 38)
        go_wp2_with (at_builtin; refine wpList_append_one2 _ rfl (.tmp 21) (.tmp 23) _ rfl i0 _ _ Tryz.underlying24 hi0 hz0 hz1 hz2 rfl (by omega) Ent.len Ent.one x _ o2 rfl rfl (new_cells2 _ _ _ _ _ rfl (by simp)) (by unfold maxLen; omega) (by omega) (by simp; omega) ?_; intro A' c' wb L hL hO hb2 hbut hdis)
        have o3 := o1.but hbut hD.symm
        have hD2 := (hdis A1 hD.symm o1.lt).symm
        have hlen : L.length = r2.length + 1 := by rw [hL.out]; simp
        have hlen2 : L.length ≤ k + 1 := by omega
        have HR3 : Hid (r1 = of1 (l.take (k + 1)) ∧ L = not1 (l.take (k + 1))) := Lib.hid (by rw [hL.out]; exact HR2.out)
        have hB2 : Below w.heap.size w wb := Below.trans (by go_grown) hb2
        clear hlen o1 o2 hO1 hO2 hbut hdis HR2 HR hL hts hb2
        go_roundw
        case rel => exact ⟨k + 1, A1, A', p1, c', r1, L, by omega, by go_num, rfl, rfl, by omega, hlen2, HR3, o3, hO, hD2, hB2⟩
        case measure => simp [intOf]; omega
    · have hd : l.take k = l := List.take_of_length_le (by omega)
      have HE : Hid (of1 l = r1 ∧ not1 l = r2) := Lib.hid (by have := HR.out; rw [hd] at this; exact ⟨this.1.symm, this.2.symm⟩)
      clear hd HR hi0 hz0 hz1 hz2
      go_wp2
      go_ret2
      refine ⟨A1, p1, A2, p2, by rw [HE.out.1, HE.out.2]; rfl, ?_, ?_, by rw [HE.out.1]; exact hO1.cap, by rw [HE.out.2]; exact hO2.cap, hB⟩
      · rw [HE.out.1]; exact hO1.sl Ent.len
      · rw [HE.out.2]; exact hO2.sl Ent.len
theorem mrg_step1 {a b : List Ent} {i k : Nat} {x : Ent} (hx : a[i]? = some x) (hk : b.length ≤ k) : mrg (a.drop i) (b.drop k) = x :: mrg (a.drop (i + 1)) (b.drop k) := by
  obtain ⟨h1, rfl⟩ := List.getElem?_eq_some_iff.1 hx
  rw [List.drop_of_length_le hk, List.drop_eq_getElem_cons h1, mrg_nil2, mrg_nil2]
theorem mrg_step2 {a b : List Ent} {i k : Nat} {y : Ent} (hy : b[k]? = some y) (hi : a.length ≤ i) : mrg (a.drop i) (b.drop k) = y :: mrg (a.drop i) (b.drop (k + 1)) := by
  obtain ⟨h1, rfl⟩ := List.getElem?_eq_some_iff.1 hy
  rw [List.drop_of_length_le hi, List.drop_eq_getElem_cons h1, mrg_nil1, mrg_nil1]
theorem mrg_step3 {a b : List Ent} {i k : Nat} {x y : Ent} (hx : a[i]? = some x) (hy : b[k]? = some y) : mrg (a.drop i) (b.drop k) = if befB x y = true then x :: mrg (a.drop (i + 1)) (b.drop k) else y :: mrg (a.drop i) (b.drop (k + 1)) := by
  obtain ⟨h1, rfl⟩ := List.getElem?_eq_some_iff.1 hx
  obtain ⟨h2, rfl⟩ := List.getElem?_eq_some_iff.1 hy
  rw [List.drop_eq_getElem_cons h1, List.drop_eq_getElem_cons h2, mrg]
set_option maxRecDepth 100000 in
set_option maxHeartbeats 8000000 in
theorem mgHistory_any (A B : Option Addr) (c d : Nat) (a b : List Ent) (w : World) (hl : a.length ≤ 1048576) (hl2 : b.length ≤ 1048576) (hS : Ents w 0 w.heap.size A a) (hS2 : Ents w 0 w.heap.size B b) :
    Calls Tryz.prog 40 #[.slice A a.length c, .slice B b.length d] w (RO1 Ent.cells 4 38 w (mrg a b)) := by
  obtain ⟨i0, hi0, hz0, hz1, hz2⟩ := info_parts Ent.info
  go_enter Tryz.func40, Tryz.ntmps40
  go_wp2_with fail
  go_loopw [5, 6, 7] (fun s5 s6 s7 wr => ∃ (i k : Nat) (Ar : Option Addr) (cr : Nat) (r : List Ent), i ≤ a.length ∧ k ≤ b.length ∧ s6 = .int .i64 i ∧ s7 = .int .i64 k ∧ s5 = .slice Ar r.length cr ∧ r.length ≤ i + k ∧ Hid (r ++ mrg (a.drop i) (b.drop k) = mrg a b) ∧ Own Ent.cells 4 38 wr w.heap.size Ar cr r ∧ Below w.heap.size w wr) (fun _ s6 s7 _ => a.length + b.length - (intOf s6).toNat - (intOf s7).toNat)
  case atStart => exact ⟨0, 0, none, 0, [], Nat.zero_le _, Nat.zero_le _, rfl, rfl, rfl, Nat.zero_le _, Lib.hid rfl, Own.nil_, Below.refl _ _⟩
  case round =>
    obtain ⟨i, k, Ar, cr, r, hi, hk, rfl, rfl, rfl, hr, HR, hO, hB⟩ := hrel
    have hz := hB.size
    by_cases h1 : i < a.length
    · obtain ⟨x, hx, _⟩ := get_lt h1
      obtain ⟨pa, offa, rfl, _, _, _, hff⟩ := hS.at_ hx
      have hfx : ∀ W, Below w.heap.size w W → ∀ j v, (Ent.cells x)[j]? = some v → W.cell? ⟨pa, offa + i * 4 + j, none⟩ = some v ∧ True := fun W h j v hv => ⟨keep h (hff j v hv).1, trivial⟩
      clear hff
      by_cases h2 : k < b.length
      · obtain ⟨y, hy, _⟩ := get_lt h2
        have HC := Lib.hid (mrg_step3 hx hy)
        obtain ⟨pb, offb, rfl, _, _, _, hff⟩ := hS2.at_ hy
        have hfy : ∀ W, Below w.heap.size w W → ∀ j v, (Ent.cells y)[j]? = some v → W.cell? ⟨pb, offb + k * 4 + j, none⟩ = some v ∧ True := fun W h j v hv => ⟨keep h (hff j v hv).1, trivial⟩
        clear hff
        have c0 : wr.cell? ⟨pa, offa + i * 4, none⟩ = some (.int .i64 x.r) := ((hfx wr hB) 0 _ rfl).1
        have c1 : wr.cell? ⟨pa, offa + i * 4 + 1, none⟩ = some (.int .i64 x.n) := ((hfx wr hB) 1 _ rfl).1
        have c2 : wr.cell? ⟨pa, offa + i * 4 + 2, none⟩ = some (.int .i64 x.m) := ((hfx wr hB) 2 _ rfl).1
        have c3 : wr.cell? ⟨pa, offa + i * 4 + 3, none⟩ = some (.string x.t) := ((hfx wr hB) 3 _ rfl).1
        have d0 : wr.cell? ⟨pb, offb + k * 4, none⟩ = some (.int .i64 y.r) := ((hfy wr hB) 0 _ rfl).1
        have d1 : wr.cell? ⟨pb, offb + k * 4 + 1, none⟩ = some (.int .i64 y.n) := ((hfy wr hB) 1 _ rfl).1
        have d2 : wr.cell? ⟨pb, offb + k * 4 + 2, none⟩ = some (.int .i64 y.m) := ((hfy wr hB) 2 _ rfl).1
        have d3 : wr.cell? ⟨pb, offb + k * 4 + 3, none⟩ = some (.string y.t) := ((hfy wr hB) 3 _ rfl).1
        clear hx hy
        have hne : ((k : Int) == (b.length : Int)) = false := beq_eq_false_iff_ne.2 (by omega)
        have hcls : ∀ w', Below wr.heap.size wr w' → w'.cell? ⟨pa, offa + i * 4, none⟩ = some (.int .i64 x.r) ∧ w'.cell? ⟨pa, offa + i * 4 + 1, none⟩ = some (.int .i64 x.n) ∧ w'.cell? ⟨pa, offa + i * 4 + 2, none⟩ = some (.int .i64 x.m) ∧ w'.cell? ⟨pa, offa + i * 4 + 3, none⟩ = some (.string x.t) ∧ w'.cell? ⟨pb, offb + k * 4, none⟩ = some (.int .i64 y.r) ∧ w'.cell? ⟨pb, offb + k * 4 + 1, none⟩ = some (.int .i64 y.n) ∧ w'.cell? ⟨pb, offb + k * 4 + 2, none⟩ = some (.int .i64 y.m) ∧ w'.cell? ⟨pb, offb + k * 4 + 3, none⟩ = some (.string y.t) :=
          fun w' h => ⟨keep h c0, keep h c1, keep h c2, keep h c3, keep h d0, keep h d1, keep h d2, keep h d3⟩
        clear c0 c1 c2 c3 d0 d1 d2 d3
        have hM : ∀ W : World, Calls Tryz.prog 62 #[.agg #[.int .i64 x.r, .int .i64 x.n, .int .i64 x.m, .string x.t], .agg #[.int .i64 y.r, .int .i64 y.n, .int .i64 y.m, .string y.t]] W (RV W (.bool (befB x y))) := fun W => mgBefore_any x y W
        by_cases hq : befB x y = true
        · have HQ := Lib.hid (HC.out.trans (if_pos hq))
          rw [hq] at hM
          clear HC hq
          go_wp2_with fail
          refine wp_region_quiet (C := fun w' => Below wr.heap.size wr w') (by kernel_rfl) (by kernel_rfl) ((Below.refl _ _).drew) ?_
          dsimp only [Array.toList]
          iterate 21
            with_reducible refine wpQuiet_step (fun K hK => ?_)
            go_simp
            first
              | (refine hK _ ?_; clear hK K)
              | (apply Exists.intro
                 refine ⟨fun w' hw' => ?_, hK _ ?_⟩
                 · obtain ⟨z0, z1, z2, z3, z4, z5, z6, z7⟩ := hcls w' hw'
                   go_simp
                   first
                     | rfl
                     | (refine (hM _).mono ?_; rintro e w1 ⟨rfl, hb⟩; exact ⟨rfl, hw'.trans (hb.mono hw'.size)⟩)
                 clear hK K)
          refine wpQuiet_nil ?_
          intro W2 hW2
          have hB2 : Below w.heap.size w W2 := Below.on' hB hW2
          have hO2 := hO.below hW2
          have c0 : W2.cell? ⟨pa, offa + i * 4, none⟩ = some (.int .i64 x.r) := ((hfx W2 hB2) 0 _ rfl).1
          have c1 : W2.cell? ⟨pa, offa + i * 4 + 1, none⟩ = some (.int .i64 x.n) := ((hfx W2 hB2) 1 _ rfl).1
          have c2 : W2.cell? ⟨pa, offa + i * 4 + 2, none⟩ = some (.int .i64 x.m) := ((hfx W2 hB2) 2 _ rfl).1
          have c3 : W2.cell? ⟨pa, offa + i * 4 + 3, none⟩ = some (.string x.t) := ((hfx W2 hB2) 3 _ rfl).1
          have hz9 := hB2.size
          clear hM hcls hfx hfy hW2 hB hO
          go_wp2_with (at_builtin; refine wpList_append_one _ rfl (.tmp 39) (.tmp 44) _ rfl i0 _ _ Tryz.underlying24 hi0 hz0 hz1 hz2 rfl (by omega) Ent.len Ent.one x _ (hO2.alloc _) rfl rfl (new_cells _ _ _ _ rfl) (by unfold maxLen; omega) (by omega) (by simp; omega) ?_; intro A' c' wb L hL hO3 hb2)
          have hlen : L.length = r.length + 1 := by rw [hL.out]; simp
          have hlen2 : L.length ≤ i + k + 1 := by omega
          have HR2 : Hid (L ++ mrg (a.drop (i + 1)) (b.drop k) = mrg a b) := Lib.hid (by
            rw [hL.out, List.append_assoc, ← HR.out, HQ.out]; rfl)
          have hB3 : Below w.heap.size w wb := Below.trans (by go_grown) hb2
          clear hlen hO2 hL hb2 HR c0 c1 c2 c3
          go_roundw
          case rel => exact ⟨i + 1, k, A', c', L, by omega, by omega, by go_num, by go_num, rfl, by omega, HR2, hO3, hB3⟩
          case measure => simp [intOf]; omega
        · have HQ := Lib.hid (HC.out.trans (if_neg hq))
          have hq : befB x y = false := by simpa using hq
          rw [hq] at hM
          clear HC hq
          go_wp2_with fail
          refine wp_region_quiet (C := fun w' => Below wr.heap.size wr w') (by kernel_rfl) (by kernel_rfl) ((Below.refl _ _).drew) ?_
          dsimp only [Array.toList]
          iterate 21
            with_reducible refine wpQuiet_step (fun K hK => ?_)
            go_simp
            first
              | (refine hK _ ?_; clear hK K)
              | (apply Exists.intro
                 refine ⟨fun w' hw' => ?_, hK _ ?_⟩
                 · obtain ⟨z0, z1, z2, z3, z4, z5, z6, z7⟩ := hcls w' hw'
                   go_simp
                   first
                     | rfl
                     | (refine (hM _).mono ?_; rintro e w1 ⟨rfl, hb⟩; exact ⟨rfl, hw'.trans (hb.mono hw'.size)⟩)
                 clear hK K)
          refine wpQuiet_nil ?_
          intro W2 hW2
          have hB2 : Below w.heap.size w W2 := Below.on' hB hW2
          have hO2 := hO.below hW2
          have c0 : W2.cell? ⟨pb, offb + k * 4, none⟩ = some (.int .i64 y.r) := ((hfy W2 hB2) 0 _ rfl).1
          have c1 : W2.cell? ⟨pb, offb + k * 4 + 1, none⟩ = some (.int .i64 y.n) := ((hfy W2 hB2) 1 _ rfl).1
          have c2 : W2.cell? ⟨pb, offb + k * 4 + 2, none⟩ = some (.int .i64 y.m) := ((hfy W2 hB2) 2 _ rfl).1
          have c3 : W2.cell? ⟨pb, offb + k * 4 + 3, none⟩ = some (.string y.t) := ((hfy W2 hB2) 3 _ rfl).1
          have hz9 := hB2.size
          clear hM hcls hfx hfy hW2 hB hO
          go_wp2_with (at_builtin; refine wpList_append_one _ rfl (.tmp 48) (.tmp 53) _ rfl i0 _ _ Tryz.underlying24 hi0 hz0 hz1 hz2 rfl (by omega) Ent.len Ent.one y _ (hO2.alloc _) rfl rfl (new_cells _ _ _ _ rfl) (by unfold maxLen; omega) (by omega) (by simp; omega) ?_; intro A' c' wb L hL hO3 hb2)
          have hlen : L.length = r.length + 1 := by rw [hL.out]; simp
          have hlen2 : L.length ≤ i + k + 1 := by omega
          have HR2 : Hid (L ++ mrg (a.drop i) (b.drop (k + 1)) = mrg a b) := Lib.hid (by
            rw [hL.out, List.append_assoc, ← HR.out, HQ.out]; rfl)
          have hB3 : Below w.heap.size w wb := Below.trans (by go_grown) hb2
          clear hlen hO2 hL hb2 HR c0 c1 c2 c3
          go_roundw
          case rel => exact ⟨i, k + 1, A', c', L, by omega, by omega, by go_num, by go_num, rfl, by omega, HR2, hO3, hB3⟩
          case measure => simp [intOf]; omega
      · have hkb : k = b.length := by omega
        have HC := Lib.hid (mrg_step1 (b := b) hx (k := k) (by omega))
        have heq : ((k : Int) == (b.length : Int)) = true := beq_iff_eq.2 (by omega)
        have hcls : ∀ w' : World, Below wr.heap.size wr w' → True := fun _ _ => trivial
        clear hx
        subst hkb
        go_wp2_with fail
        refine wp_region_quiet (C := fun w' => Below wr.heap.size wr w') (by kernel_rfl) (by kernel_rfl) ((Below.refl _ _).drew) ?_
        dsimp only [Array.toList]
        iterate 21
          with_reducible refine wpQuiet_step (fun K hK => ?_)
          go_simp
          first
            | (refine hK _ ?_; clear hK K)
            | (apply Exists.intro
               refine ⟨fun w' hw' => ?_, hK _ ?_⟩
               · have z0 := hcls w' hw'
                 go_simp
                 first
                   | rfl
               clear hK K)
        refine wpQuiet_nil ?_
        intro W2 hW2
        have hB2 : Below w.heap.size w W2 := Below.on' hB hW2
        have hO2 := hO.below hW2
        have c0 : W2.cell? ⟨pa, offa + i * 4, none⟩ = some (.int .i64 x.r) := ((hfx W2 hB2) 0 _ rfl).1
        have c1 : W2.cell? ⟨pa, offa + i * 4 + 1, none⟩ = some (.int .i64 x.n) := ((hfx W2 hB2) 1 _ rfl).1
        have c2 : W2.cell? ⟨pa, offa + i * 4 + 2, none⟩ = some (.int .i64 x.m) := ((hfx W2 hB2) 2 _ rfl).1
        have c3 : W2.cell? ⟨pa, offa + i * 4 + 3, none⟩ = some (.string x.t) := ((hfx W2 hB2) 3 _ rfl).1
        have hz9 := hB2.size
        clear hcls hfx hW2 hB hO
        go_wp2_with (at_builtin; refine wpList_append_one _ rfl (.tmp 39) (.tmp 44) _ rfl i0 _ _ Tryz.underlying24 hi0 hz0 hz1 hz2 rfl (by omega) Ent.len Ent.one x _ (hO2.alloc _) rfl rfl (new_cells _ _ _ _ rfl) (by unfold maxLen; omega) (by omega) (by simp; omega) ?_; intro A' c' wb L hL hO3 hb2)
        have hlen : L.length = r.length + 1 := by rw [hL.out]; simp
        have hlen2 : L.length ≤ i + b.length + 1 := by omega
        have HR2 : Hid (L ++ mrg (a.drop (i + 1)) (b.drop b.length) = mrg a b) := Lib.hid (by
          rw [hL.out, List.append_assoc, ← HR.out, HC.out]; rfl)
        have hB3 : Below w.heap.size w wb := Below.trans (by go_grown) hb2
        clear hlen hO2 hL hb2 HR c0 c1 c2 c3
        go_roundw
        case rel => exact ⟨i + 1, b.length, A', c', L, by omega, by omega, by go_num, by go_num, rfl, by omega, HR2, hO3, hB3⟩
        case measure => simp [intOf]; omega
    · by_cases h2 : k < b.length
      · obtain ⟨y, hy, _⟩ := get_lt h2
        have hia : i = a.length := by omega
        have HC := Lib.hid (mrg_step2 (a := a) hy (i := i) (by omega))
        obtain ⟨pb, offb, rfl, _, _, _, hff⟩ := hS2.at_ hy
        have hfy : ∀ W, Below w.heap.size w W → ∀ j v, (Ent.cells y)[j]? = some v → W.cell? ⟨pb, offb + k * 4 + j, none⟩ = some v ∧ True := fun W h j v hv => ⟨keep h (hff j v hv).1, trivial⟩
        clear hff
        have hne : ((k : Int) == (b.length : Int)) = false := beq_eq_false_iff_ne.2 (by omega)
        have hcls : ∀ w' : World, Below wr.heap.size wr w' → True := fun _ _ => trivial
        clear hy
        subst hia
        go_wp2_with fail
        refine wp_region_quiet (C := fun w' => Below wr.heap.size wr w') (by kernel_rfl) (by kernel_rfl) ((Below.refl _ _).drew) ?_
        dsimp only [Array.toList]
        iterate 21
          with_reducible refine wpQuiet_step (fun K hK => ?_)
          go_simp
          first
            | (refine hK _ ?_; clear hK K)
            | (apply Exists.intro
               refine ⟨fun w' hw' => ?_, hK _ ?_⟩
               · have z0 := hcls w' hw'
                 go_simp
                 first
                   | rfl
               clear hK K)
        refine wpQuiet_nil ?_
        intro W2 hW2
        have hB2 : Below w.heap.size w W2 := Below.on' hB hW2
        have hO2 := hO.below hW2
        have c0 : W2.cell? ⟨pb, offb + k * 4, none⟩ = some (.int .i64 y.r) := ((hfy W2 hB2) 0 _ rfl).1
        have c1 : W2.cell? ⟨pb, offb + k * 4 + 1, none⟩ = some (.int .i64 y.n) := ((hfy W2 hB2) 1 _ rfl).1
        have c2 : W2.cell? ⟨pb, offb + k * 4 + 2, none⟩ = some (.int .i64 y.m) := ((hfy W2 hB2) 2 _ rfl).1
        have c3 : W2.cell? ⟨pb, offb + k * 4 + 3, none⟩ = some (.string y.t) := ((hfy W2 hB2) 3 _ rfl).1
        have hz9 := hB2.size
        clear hcls hfy hW2 hB hO
        go_wp2_with (at_builtin; refine wpList_append_one _ rfl (.tmp 48) (.tmp 53) _ rfl i0 _ _ Tryz.underlying24 hi0 hz0 hz1 hz2 rfl (by omega) Ent.len Ent.one y _ (hO2.alloc _) rfl rfl (new_cells _ _ _ _ rfl) (by unfold maxLen; omega) (by omega) (by simp; omega) ?_; intro A' c' wb L hL hO3 hb2)
        have hlen : L.length = r.length + 1 := by rw [hL.out]; simp
        have hlen2 : L.length ≤ a.length + k + 1 := by omega
        have HR2 : Hid (L ++ mrg (a.drop a.length) (b.drop (k + 1)) = mrg a b) := Lib.hid (by
          rw [hL.out, List.append_assoc, ← HR.out, HC.out]; rfl)
        have hB3 : Below w.heap.size w wb := Below.trans (by go_grown) hb2
        clear hlen hO2 hL hb2 HR c0 c1 c2 c3
        go_roundw
        case rel => exact ⟨a.length, k + 1, A', c', L, by omega, by omega, by go_num, by go_num, rfl, by omega, HR2, hO3, hB3⟩
        case measure => simp [intOf]; omega
      · have hia : i = a.length := by omega
        have hkb : k = b.length := by omega
        have HE : Hid (mrg a b = r) := Lib.hid (by have := HR.out; rw [hia, hkb, List.drop_length, List.drop_length, mrg_nil1] at this; simpa using this.symm)
        clear HR hi0 hz0 hz1 hz2 hia hkb
        go_wp2
        go_ret
        exact ⟨Ar, cr, by rw [HE.out]; rfl, by rw [HE.out]; exact hO, hB⟩
end Go.Proofs.YtmdmcjhodhphgaaGreat

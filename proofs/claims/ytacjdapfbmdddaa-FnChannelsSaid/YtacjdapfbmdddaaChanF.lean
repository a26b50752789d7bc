/- The program's steps on a channel: one message delivered, one confirmed. Condition: at most 2^20 messages in each list. -/
import Derived.Test.YtacjdapfbmdddaaChanD
import Derived.BigQuiet
namespace Go.Proofs.Ytacjdapfbmdddaa
open Go.RowKit

theorem sl_one (w : World) (m : Msg) : Msgs (w.alloc (.cells #[.string m.f, .int .i64 m.n, .string m.b] 33)) 0 (w.alloc (.cells #[.string m.f, .int .i64 m.n, .string m.b] 33)).heap.size (some ⟨w.heap.size, 0, none⟩) [m] := fun _ => by
  refine ⟨w.heap.size, 0, rfl, Nat.zero_le _, by simp, Nat.le_refl _, fun i x hx j v hv => ?_⟩
  cases i with
  | zero =>
    obtain rfl : m = x := by simpa using hx
    have := new_cells (E := Msg.cells) w 33 m _ rfl j v hv
    rw [show 0 + 0 * 3 + j = j by omega]
    exact ⟨this, World.frozen?_alloc_at _ _ _ _ rfl⟩
  | succ i => simp at hx
/-- In the block pb, only the cell at q changed. -/
def BoxB (pb q : Nat) (w w' : World) : Prop := ∀ j, j ≠ q → w'.cell? ⟨pb, j, none⟩ = w.cell? ⟨pb, j, none⟩ ∧ w'.frozen? ⟨pb, j, none⟩ = w.frozen? ⟨pb, j, none⟩
theorem BoxB.of {pb q : Nat} {w V : World} {v : Value} (e : V.heap[pb]? = w.heap[pb]?) : BoxB pb q w (V.setCell ⟨pb, q, none⟩ v) := fun j hj =>
  ⟨(World.cell?_setCell_other _ _ _ _ (by intro h; injection h with _ h _; omega)).trans (World.cell?_of_block (a := ⟨pb, j, none⟩) e), (World.frozen?_setCell ..).trans (World.frozen?_of_block (a := ⟨pb, j, none⟩) e)⟩
theorem BoxB.same {pb q : Nat} {w V : World} (e : V.heap[pb]? = w.heap[pb]?) : BoxB pb q w V := fun j _ =>
  ⟨World.cell?_of_block (a := ⟨pb, j, none⟩) e, World.frozen?_of_block (a := ⟨pb, j, none⟩) e⟩
/-- Behind an append to the list with address A inside the box pb. -/
def ButP (A : Option Addr) (pb : Nat) (w w' : World) : Prop := ∀ b, b < w.heap.size → b ≠ pb → (∀ a, A = some a → a.block ≠ b) → w'.heap[b]? = w.heap[b]?
set_option maxRecDepth 100000 in
set_option maxHeartbeats 8000000 in
theorem deliver_any (pb po base : Nat) (A1 : Option Addr) (c1 : Nat) (s : List Msg) (A2 : Option Addr) (c2 : Nat) (r : List Msg) (A3 : Option Addr) (c3 : Nat) (h : List Msg) (w : World) (hX : C3 pb po (.slice A1 s.length c1) (.slice A2 r.length c2) (.slice A3 h.length c3) w) (hO : OwnC w base A1 c1 s A2 c2 r A3 c3 h) (hbs : base ≤ w.heap.size) (hbp : base ≤ pb)
    (hd1 : Dis A1 (some ⟨pb, 0, none⟩)) (hd2 : Dis A2 (some ⟨pb, 0, none⟩)) (hd3 : Dis A3 (some ⟨pb, 0, none⟩)) (_hls : s.length ≤ 1048576) (hlr : r.length ≤ 1048576) (i : Nat) (m : Msg) (hm : s[i]? = some m) :
    Calls Try.prog 39 #[.pointer (some ⟨pb, po, none⟩), .int .i64 i] w fun e w' => ∃ A' c', e = .returned (.tuple #[]) ∧ C3 pb po (.slice A1 s.length c1) (.slice A' (addM r m).length c') (.slice A3 h.length c3) w' ∧ OwnC w' base A1 c1 s A' c' (addM r m) A3 c3 h ∧ Dis A' (some ⟨pb, 0, none⟩) ∧ Below base w w' ∧ ButP A2 pb w w' ∧ (∀ A, Dis A2 A → (∀ a, A = some a → a.block < w.heap.size) → Dis A' A) ∧ BoxB pb (po + 1) w w' := by
  have hpw := hX.lt
  obtain ⟨i0, hi0, hz0, hz1, hz2⟩ := info_parts Msg.info
  have hlen : (addM r m).length ≤ r.length + 1 := addM_len r m
  generalize hL : addM r m = L at hlen ⊢
  replace hL := Lib.hid hL
  have hil : i < s.length := (List.getElem?_eq_some_iff.1 hm).1
  obtain ⟨b, off, rfl, _, kb, _, hf⟩ := (hO.o1.sl Msg.len).at_ hm
  have d0 : w.cell? ⟨b, off + i * 3, none⟩ = some (.string m.f) := (hf 0 _ rfl).1
  have d1 : w.cell? ⟨b, off + i * 3 + 1, none⟩ = some (.int .i64 m.n) := (hf 1 _ rfl).1
  have d2 : w.cell? ⟨b, off + i * 3 + 2, none⟩ = some (.string m.b) := (hf 2 _ rfl).1
  have hcls : ∀ W, Below w.heap.size w W → W.cell? ⟨pb, po, none⟩ = some (.slice (some ⟨b, off, none⟩) s.length c1) ∧ W.cell? ⟨pb, po + 1, none⟩ = some (.slice A2 r.length c2) ∧ W.cell? ⟨pb, po + 2, none⟩ = some (.slice A3 h.length c3) ∧ W.cell? ⟨b, off + i * 3, none⟩ = some (.string m.f) ∧ W.cell? ⟨b, off + i * 3 + 1, none⟩ = some (.int .i64 m.n) ∧ W.cell? ⟨b, off + i * 3 + 2, none⟩ = some (.string m.b) := fun W hb => ⟨keep hb hX.c0, keep hb hX.c1, keep hb hX.c2, keep hb d0, keep hb d1, keep hb d2⟩
  have HM : ∀ W, Below w.heap.size w W → Calls Try.prog 55 #[.slice A2 r.length c2, .agg #[.string m.f, .int .i64 m.n, .string m.b]] W (RV W (.bool (memM r m))) := fun W hb => Msg.Contains_any A2 c2 r m W hlr ((hO.o2.sl Msg.len).below hb).all
  clear hf d0 d1 d2
  go_enter Try.func39, Try.ntmps39
  go_wp2_with fail
  refine wp_region_quiet (C := fun w' => Below w.heap.size w w') (by kernel_rfl) (by kernel_rfl) ((Below.refl _ _).drew) ?_
  dsimp only [Array.toList]
  iterate 13
    with_reducible refine wpQuiet_step (fun K hK => ?_)
    go_simp
    first
      | (refine hK _ ?_; clear hK K)
      | (apply Exists.intro
         refine ⟨fun w' hw' => ?_, hK _ ?_⟩
         · obtain ⟨z0, z1, z2, z3, z4, z5⟩ := hcls w' hw'
           have M1 := HM w' hw'
           go_simp
           first
             | rfl
             | (refine M1.mono ?_; rintro e w1 ⟨rfl, hb⟩; exact ⟨rfl, hw'.trans (hb.mono hw'.size)⟩)
         clear hK K)
  refine wpQuiet_nil ?_
  intro W0 hW0
  replace hcls := hcls W0 hW0
  replace hX := hX.below hW0
  replace hO := hO.below hW0
  clear HM
  have hz := hW0.size
  by_cases g : memM r m = true
  · obtain rfl : r = L := by rw [← hL.out, addM, if_pos g]
    rw [g]
    go_wp2
    refine bodyPost_end (results_none Try.results39 _ _ _) rfl ?_
    exact ⟨A2, c2, rfl, hX, hO, hd2, hW0.mono hbs, fun b h _ _ => hW0.block b h, fun _ h _ => h, BoxB.same (hW0.block pb hpw)⟩
  · have hA : Hid (r ++ [m] = L) := Lib.hid (by rw [← hL.out, addM, if_neg g])
    have g : memM r m = false := by simpa using g
    rw [g]
    clear hL g
    go_upto_region 1 with fail
    refine wp_region_held_drew (S := fun _ => True) (by kernel_rfl) trivial (fun _ => ?_)
    replace hX := hX.drew
    replace hO := hO.drew
    change _ ∧ _ ∧ _ ∧ _ ∧ _ ∧ _ at hcls
    have hW0' := hW0.drew
    have hz' : w.heap.size ≤ W0.drew.heap.size := hz
    have hcls' : W0.drew.cell? ⟨pb, po, none⟩ = some (.slice (some ⟨b, off, none⟩) s.length c1) ∧ W0.drew.cell? ⟨pb, po + 1, none⟩ = some (.slice A2 r.length c2) ∧ W0.drew.cell? ⟨pb, po + 2, none⟩ = some (.slice A3 h.length c3) ∧ W0.drew.cell? ⟨b, off + i * 3, none⟩ = some (.string m.f) ∧ W0.drew.cell? ⟨b, off + i * 3 + 1, none⟩ = some (.int .i64 m.n) ∧ W0.drew.cell? ⟨b, off + i * 3 + 2, none⟩ = some (.string m.b) := hcls
    clear hcls
    generalize W0.drew = W1 at hX hO hcls' hW0' hz' ⊢
    change wpAnyH _ _ _ _ _ 17 #[false, false, false, false, false, false, false, false, false, false, false, false, false, false, false, false, false] _ _
    refine wpAnyH_takeL (i := 0) (v := .pointer (some ⟨pb, po, none⟩)) rfl (by kernel_rfl) (by kernel_rfl) (by kernel_rfl) (fun _ _ _ h => h) (Or.inl ⟨by rfl, fun w' _ => by go_simp⟩) trivial ?_
    simp only [Act.put, List.setIfInBounds_toArray, List.set_cons_zero, List.set_cons_succ]
    refine wpAnyH_takeL (i := 1) (v := .pointer (some ⟨pb, po, none⟩)) rfl (by kernel_rfl) (by kernel_rfl) (by kernel_rfl) (fun _ _ _ h => h) (Or.inl ⟨by rfl, fun w' _ => by go_simp⟩) trivial ?_
    simp only [Act.put, List.setIfInBounds_toArray, List.set_cons_zero, List.set_cons_succ]
    refine wpAnyH_takeL (i := 2) (v := .pointer (some ⟨pb, po, none⟩)) rfl (by kernel_rfl) (by kernel_rfl) (by kernel_rfl) (fun _ _ _ h => h) (Or.inl ⟨by rfl, fun w' _ => by go_simp⟩) trivial ?_
    simp only [Act.put, List.setIfInBounds_toArray, List.set_cons_zero, List.set_cons_succ]
    refine wpAnyH_takeL (i := 3) (v := .pointer (some ⟨pb, po + 1, none⟩)) rfl (by kernel_rfl) (by kernel_rfl) (by kernel_rfl) (fun _ _ _ h => h) (Or.inl ⟨by rfl, fun w' _ => by go_simp⟩) trivial ?_
    simp only [Act.put, List.setIfInBounds_toArray, List.set_cons_zero, List.set_cons_succ]
    refine wpAnyH_takeL (i := 5) (v := .pointer (some ⟨pb, po, none⟩)) rfl (by kernel_rfl) (by kernel_rfl) (by kernel_rfl) (fun _ _ _ h => h) (Or.inl ⟨by rfl, fun w' _ => by go_simp⟩) trivial ?_
    simp only [Act.put, List.setIfInBounds_toArray, List.set_cons_zero, List.set_cons_succ]
    refine wpAnyH_takeL (i := 6) (v := .pointer (some ⟨pb, po, none⟩)) rfl (by kernel_rfl) (by kernel_rfl) (by kernel_rfl) (fun _ _ _ h => h) (Or.inl ⟨by rfl, fun w' _ => by go_simp⟩) trivial ?_
    simp only [Act.put, List.setIfInBounds_toArray, List.set_cons_zero, List.set_cons_succ]
    refine wpAnyH_takeL (i := 7) (v := .pointer (some ⟨pb, po, none⟩)) rfl (by kernel_rfl) (by kernel_rfl) (by kernel_rfl) (fun _ _ _ h => h) (Or.inl ⟨by rfl, fun w' _ => by go_simp⟩) trivial ?_
    simp only [Act.put, List.setIfInBounds_toArray, List.set_cons_zero, List.set_cons_succ]
    refine wpAnyH_takeL (i := 9) (v := .int .i64 i) rfl (by kernel_rfl) (by kernel_rfl) (by kernel_rfl) (fun _ _ _ h => h) (Or.inl ⟨by rfl, fun w' _ => by go_simp⟩) trivial ?_
    simp only [Act.put, List.setIfInBounds_toArray, List.set_cons_zero, List.set_cons_succ]
    refine wpAnyH_inv (m := 4) (I := fun n l a W => ∃ x y v21 v25 v27 v28 v29, n + x + y = 5 ∧ x ≤ 1 ∧ y ≤ 4 ∧ l = #[true, true, true, true, decide (1 ≤ x), true, true, true, decide (1 ≤ y), true, decide (2 ≤ y), decide (3 ≤ y), decide (4 ≤ y), false, false, false, false] ∧ a = ⟨#[.pointer (some ⟨pb, po, none⟩), .int .i64 i, undef, undef, .pointer (some ⟨pb, po, none⟩), .pointer (some ⟨pb, po, none⟩), .pointer (some ⟨pb, po + 1, none⟩), .slice A2 r.length c2, .pointer (some ⟨pb, po, none⟩), .pointer (some ⟨pb, po, none⟩), .pointer (some ⟨pb, po, none⟩), .slice (some ⟨b, off, none⟩) s.length c1, .int .i64 i, .pointer (some ⟨b, off + i * 3, none⟩), .agg #[.string m.f, .int .i64 m.n, .string m.b], .bool false, .bool true, .pointer (some ⟨pb, po, none⟩), .pointer (some ⟨pb, po, none⟩), .pointer (some ⟨pb, po, none⟩), .pointer (some ⟨pb, po + 1, none⟩), v21, .pointer (some ⟨pb, po, none⟩), .pointer (some ⟨pb, po, none⟩), .pointer (some ⟨pb, po, none⟩), v25, .int .i64 i, v27, v28, v29, undef, undef, undef], []⟩ ∧ (1 ≤ x → v21 = .slice A2 r.length c2) ∧ (1 ≤ y → v25 = .slice (some ⟨b, off, none⟩) s.length c1) ∧ (2 ≤ y → v27 = .pointer (some ⟨b, off + i * 3, none⟩)) ∧ (3 ≤ y → v28 = .agg #[.string m.f, .int .i64 m.n, .string m.b]) ∧ ((y ≤ 3 ∧ W = W1) ∨ (y = 4 ∧ v29 = .slice (some ⟨W1.heap.size, 0, none⟩) 1 1 ∧ W = W1.alloc (.cells #[.string m.f, .int .i64 m.n, .string m.b] 33))) ∧ W.cell? ⟨pb, po, none⟩ = some (.slice (some ⟨b, off, none⟩) s.length c1) ∧ W.cell? ⟨pb, po + 1, none⟩ = some (.slice A2 r.length c2) ∧ W.cell? ⟨pb, po + 2, none⟩ = some (.slice A3 h.length c3) ∧ W.cell? ⟨b, off + i * 3, none⟩ = some (.string m.f) ∧ W.cell? ⟨b, off + i * 3 + 1, none⟩ = some (.int .i64 m.n) ∧ W.cell? ⟨b, off + i * 3 + 2, none⟩ = some (.string m.b)) ?_ ?_ 5 _ _ _ ⟨0, 0, undef, undef, undef, undef, undef, rfl, by omega, by omega, rfl, rfl, by omega, by omega, by omega, by omega, .inl ⟨by omega, rfl⟩, hcls'⟩
    · rintro n l a W ⟨x, y, v21, v25, v27, v28, v29, hn, hx, hy, rfl, rfl, e21, e25, e27, e28, hW, hc⟩
      refine ⟨?_, fun i' o ho hi K hK => ?_⟩
      · rcases (by omega : x = 0 ∨ x = 1) with rfl | rfl <;> rcases (by omega : y = 0 ∨ y = 1 ∨ y = 2 ∨ y = 3 ∨ y = 4) with rfl | rfl | rfl | rfl | rfl <;> first | kernel_rfl | (exfalso; omega)
      · obtain ⟨hun, _⟩ := mem_ready.1 hi
        have hcont := List.contains_iff_mem.2 hi
        obtain ⟨z0, z1, z2, z3, z4, z5⟩ := id hc
        have hi17 : i' = 0 ∨ i' = 1 ∨ i' = 2 ∨ i' = 3 ∨ i' = 4 ∨ i' = 5 ∨ i' = 6 ∨ i' = 7 ∨ i' = 8 ∨ i' = 9 ∨ i' = 10 ∨ i' = 11 ∨ i' = 12 ∨ i' = 13 ∨ i' = 14 ∨ i' = 15 ∨ i' = 16 := by
          have := (List.getElem?_eq_some_iff.1 ho).1
          simp only [List.length_cons, List.length_nil] at this
          omega
        rcases hi17 with rfl | rfl | rfl | rfl | rfl | rfl | rfl | rfl | rfl | rfl | rfl | rfl | rfl | rfl | rfl | rfl | rfl
        · cases hun
        · cases hun
        · cases hun
        · cases hun
        · have hx0 : x = 0 := by have := of_decide_eq_false hun; omega
          subst hx0
          obtain rfl := Option.some.inj ho
          clear ho hi hcont hun
          go_simp
          exact hK.out _ _ trivial ⟨1, y, _, v25, v27, v28, v29, by omega, by omega, by omega, rfl, rfl, fun _ => rfl, e25, e27, e28, hW, hc⟩
        · cases hun
        · cases hun
        · cases hun
        · have hy1 : y ≤ 0 := by have := of_decide_eq_false hun; omega
          have hy0 : y = 0 := by
            omega
          subst hy0
          obtain rfl := Option.some.inj ho
          clear ho hi hcont hun
          replace hW : W = W1 := hW.elim And.right (fun h => absurd h.1 (by omega))
          subst hW
          go_simp
          exact hK.out _ _ trivial ⟨x, 1, v21, _, v27, v28, v29, by omega, by omega, by omega, rfl, rfl, e21, fun _ => rfl, by omega, by omega, .inl ⟨by omega, rfl⟩, hc⟩
        · cases hun
        · have hy1 : y ≤ 1 := by have := of_decide_eq_false hun; omega
          have hy0 : y = 1 := by
            rcases (by omega : x = 0 ∨ x = 1) with rfl | rfl <;> rcases (by omega : y = 0 ∨ y = 1) with rfl | rfl <;> first | rfl | exact absurd (hcont.symm.trans (by kernel_rfl : _ = false)) (by decide)
          subst hy0
          obtain rfl := Option.some.inj ho
          clear ho hi hcont hun
          replace hW : W = W1 := hW.elim And.right (fun h => absurd h.1 (by omega))
          obtain rfl := e25 (by omega)
          subst hW
          go_simp
          exact hK.out _ _ trivial ⟨x, 2, v21, _, _, v28, v29, by omega, by omega, by omega, rfl, rfl, e21, fun _ => rfl, fun _ => rfl, by omega, .inl ⟨by omega, rfl⟩, hc⟩
        · have hy1 : y ≤ 2 := by have := of_decide_eq_false hun; omega
          have hy0 : y = 2 := by
            rcases (by omega : x = 0 ∨ x = 1) with rfl | rfl <;> rcases (by omega : y = 0 ∨ y = 1 ∨ y = 2) with rfl | rfl | rfl <;> first | rfl | exact absurd (hcont.symm.trans (by kernel_rfl : _ = false)) (by decide)
          subst hy0
          obtain rfl := Option.some.inj ho
          clear ho hi hcont hun
          replace hW : W = W1 := hW.elim And.right (fun h => absurd h.1 (by omega))
          obtain rfl := e25 (by omega)
          obtain rfl := e27 (by omega)
          subst hW
          go_simp
          exact hK.out _ _ trivial ⟨x, 3, v21, _, _, _, v29, by omega, by omega, by omega, rfl, rfl, e21, fun _ => rfl, fun _ => rfl, fun _ => rfl, .inl ⟨by omega, rfl⟩, hc⟩
        · have hy1 : y ≤ 3 := by have := of_decide_eq_false hun; omega
          have hy0 : y = 3 := by
            rcases (by omega : x = 0 ∨ x = 1) with rfl | rfl <;> rcases (by omega : y = 0 ∨ y = 1 ∨ y = 2 ∨ y = 3) with rfl | rfl | rfl | rfl <;> first | rfl | exact absurd (hcont.symm.trans (by kernel_rfl : _ = false)) (by decide)
          subst hy0
          obtain rfl := Option.some.inj ho
          clear ho hi hcont hun
          replace hW : W = W1 := hW.elim And.right (fun h => absurd h.1 (by omega))
          obtain rfl := e25 (by omega)
          obtain rfl := e27 (by omega)
          obtain rfl := e28 (by omega)
          subst hW
          go_simp
          exact hK.out _ _ trivial ⟨x, 4, v21, _, _, _, _, by omega, by omega, by omega, rfl, rfl, e21, fun _ => rfl, fun _ => rfl, fun _ => rfl, .inr ⟨rfl, rfl, rfl⟩, lay _ z0, lay _ z1, lay _ z2, lay _ z3, lay _ z4, lay _ z5⟩
        · exfalso
          rcases (by omega : x = 0 ∨ x = 1) with rfl | rfl <;> rcases (by omega : y = 0 ∨ y = 1 ∨ y = 2 ∨ y = 3 ∨ y = 4) with rfl | rfl | rfl | rfl | rfl <;> first | omega | exact absurd (hcont.symm.trans (by kernel_rfl : _ = false)) (by decide)
        · exfalso
          rcases (by omega : x = 0 ∨ x = 1) with rfl | rfl <;> rcases (by omega : y = 0 ∨ y = 1 ∨ y = 2 ∨ y = 3 ∨ y = 4) with rfl | rfl | rfl | rfl | rfl <;> first | omega | exact absurd (hcont.symm.trans (by kernel_rfl : _ = false)) (by decide)
        · exfalso
          rcases (by omega : x = 0 ∨ x = 1) with rfl | rfl <;> rcases (by omega : y = 0 ∨ y = 1 ∨ y = 2 ∨ y = 3 ∨ y = 4) with rfl | rfl | rfl | rfl | rfl <;> first | omega | exact absurd (hcont.symm.trans (by kernel_rfl : _ = false)) (by decide)
        · exfalso
          rcases (by omega : x = 0 ∨ x = 1) with rfl | rfl <;> rcases (by omega : y = 0 ∨ y = 1 ∨ y = 2 ∨ y = 3 ∨ y = 4) with rfl | rfl | rfl | rfl | rfl <;> first | omega | exact absurd (hcont.symm.trans (by kernel_rfl : _ = false)) (by decide)
    · rintro l a W ⟨x, y, v21, v25, v27, v28, v29, hn, hx, hy, rfl, rfl, e21, e25, e27, e28, hW, hc⟩
      obtain ⟨rfl, rfl⟩ : x = 1 ∧ y = 4 := by omega
      obtain rfl := e21 (by omega)
      rcases hW with ⟨h, _⟩ | ⟨_, rfl, rfl⟩
      · omega
      change wpAnyH _ _ _ _ _ _ #[true, true, true, true, true, true, true, true, true, true, true, true, true, false, false, false, false] _ _
      refine wpAnyH_ready (rs := [13]) (by kernel_rfl) (by simp) ?_
      refine AllReadyH.consL rfl (fun K hK => ?_) AllReadyH.nil
      rw [if_pos (by rfl)]
      have hbs' : base ≤ (W1.alloc (.cells #[.string m.f, .int .i64 m.n, .string m.b] 33)).heap.size := by simp; omega
      refine wp_append_all (W1.alloc (.cells #[.string m.f, .int .i64 m.n, .string m.b] 33)) (.tmp 21) (.tmp 29) _ rfl i0 _ _ Try.underlying24 hi0 hz0 hz1 hz2 rfl (by omega) Msg.len Msg.one (hO.o2.alloc _) (sl_one W1 m) rfl rfl (by simp only [List.length_cons, List.length_nil]; unfold maxLen; omega) (by simp only [List.length_cons, List.length_nil]; omega) hbs' ?_
      intro A' c' V hOw hbw hbut hd
      refine hK.out _ _ trivial (fun _ => ?_)
      clear hK K
      have hO3 := (hO.below ((Below.refl _ _).alloc (Nat.le_refl _) _)).push2 hOw hbut hd
      have hlt : pb < W1.heap.size := hX.lt
      have hX3 := (hX.alloc (.cells #[.string m.f, .int .i64 m.n, .string m.b] 33)).same (hbut pb (hX.alloc _).lt (fun a ha => hd2 a _ ha rfl))
      have hdN := hd (some ⟨pb, 0, none⟩) hd2 (fun a ha => by injection ha with ha; subst ha; simp; omega)
      obtain ⟨g0, g1, g2, g3, g4, g5⟩ := id hX3
      refine wpAnyH_takeL (i := 14) (v := .pointer (some ⟨pb, po, none⟩)) rfl (by kernel_rfl) (by kernel_rfl) (by kernel_rfl) (fun _ _ _ h => h) (Or.inl ⟨by rfl, fun w' _ => by go_simp⟩) trivial ?_
      simp only [Act.put, List.setIfInBounds_toArray, List.set_cons_zero, List.set_cons_succ]
      refine wpAnyH_takeL (i := 15) (v := .pointer (some ⟨pb, po + 1, none⟩)) rfl (by kernel_rfl) (by kernel_rfl) (by kernel_rfl) (fun _ _ _ h => h) (Or.inl ⟨by rfl, fun w' _ => by go_simp⟩) trivial ?_
      simp only [Act.put, List.setIfInBounds_toArray, List.set_cons_zero, List.set_cons_succ]
      refine wpAnyH_ready (rs := [16]) (by kernel_rfl) (by simp) ?_
      refine AllReadyH.consL rfl (fun K hK => ?_) AllReadyH.nil
      go_simp
      refine hK.out _ _ trivial (fun _ => ?_)
      refine wpAnyH_done (by kernel_rfl) ?_ _
      have hFg : Fr pb (pb + 1) V (V.setCell ⟨pb, po + 1, none⟩ (.slice A' (r ++ [m]).length c')) := (Fr.refl _ _ _).setCell ⟨by simp, by simp⟩ _
      have hO4 := hO3.apart hFg hd1 hdN hd3
      have hX4 := hX3.set1 (.slice A' (r ++ [m]).length c')
      have hB4 : Below base w (V.setCell ⟨pb, po + 1, none⟩ (.slice A' (r ++ [m]).length c')) := (((hW0'.mono hbs).alloc (by omega) _).trans hbw).trans (hFg.below (by omega) (by have := hbw.size; omega))
      have hBP : ButP A2 pb w (V.setCell ⟨pb, po + 1, none⟩ (.slice A' (r ++ [m]).length c')) := fun q hq hne hA2 => by
        have hq1 : q < (W1.alloc (.cells #[.string m.f, .int .i64 m.n, .string m.b] 33)).heap.size := by simp; omega
        rw [hFg.block q (by have := hbw.size; omega) (by omega), hbut q hq1 hA2, ((Below.refl _ W1).alloc (Nat.le_refl _) _).block q (by omega), hW0'.block q hq]
      go_wp2
      refine bodyPost_end (results_none Try.results39 _ _ _) rfl ?_
      obtain rfl := hA.out
      rw [show r.length + 1 = (r ++ [m]).length by simp]
      exact ⟨rfl, A', c', hX4, hO4, hdN, hB4, hBP, fun A h1 h2 => hd A h1 (fun a ha => by have := h2 a ha; simp; omega), BoxB.of ((hbut pb (hX.alloc _).lt (fun a ha => hd2 a _ ha rfl)).trans ((((Below.refl _ W1).alloc (Nat.le_refl _) _).block pb hlt).trans (hW0'.block pb hpw)))⟩
set_option maxRecDepth 100000 in
set_option maxHeartbeats 8000000 in
theorem confirm_any (pb po base : Nat) (A1 : Option Addr) (c1 : Nat) (s : List Msg) (A2 : Option Addr) (c2 : Nat) (r : List Msg) (A3 : Option Addr) (c3 : Nat) (h : List Msg) (w : World) (hX : C3 pb po (.slice A1 s.length c1) (.slice A2 r.length c2) (.slice A3 h.length c3) w) (hO : OwnC w base A1 c1 s A2 c2 r A3 c3 h) (hbs : base ≤ w.heap.size) (hbp : base ≤ pb)
    (hd1 : Dis A1 (some ⟨pb, 0, none⟩)) (hd2 : Dis A2 (some ⟨pb, 0, none⟩)) (hd3 : Dis A3 (some ⟨pb, 0, none⟩)) (_hlr : r.length ≤ 1048576) (hlh : h.length ≤ 1048576) (i : Nat) (m : Msg) (hm : r[i]? = some m) :
    Calls Try.prog 40 #[.pointer (some ⟨pb, po, none⟩), .int .i64 i] w fun e w' => ∃ A' c', e = .returned (.tuple #[]) ∧ C3 pb po (.slice A1 s.length c1) (.slice A2 r.length c2) (.slice A' (addM h m).length c') w' ∧ OwnC w' base A1 c1 s A2 c2 r A' c' (addM h m) ∧ Dis A' (some ⟨pb, 0, none⟩) ∧ Below base w w' ∧ ButP A3 pb w w' ∧ (∀ A, Dis A3 A → (∀ a, A = some a → a.block < w.heap.size) → Dis A' A) ∧ BoxB pb (po + 2) w w' := by
  have hpw := hX.lt
  obtain ⟨i0, hi0, hz0, hz1, hz2⟩ := info_parts Msg.info
  have hlen : (addM h m).length ≤ h.length + 1 := addM_len h m
  generalize hL : addM h m = L at hlen ⊢
  replace hL := Lib.hid hL
  have hil : i < r.length := (List.getElem?_eq_some_iff.1 hm).1
  obtain ⟨b, off, rfl, _, kb, _, hf⟩ := (hO.o2.sl Msg.len).at_ hm
  have d0 : w.cell? ⟨b, off + i * 3, none⟩ = some (.string m.f) := (hf 0 _ rfl).1
  have d1 : w.cell? ⟨b, off + i * 3 + 1, none⟩ = some (.int .i64 m.n) := (hf 1 _ rfl).1
  have d2 : w.cell? ⟨b, off + i * 3 + 2, none⟩ = some (.string m.b) := (hf 2 _ rfl).1
  have hcls : ∀ W, Below w.heap.size w W → W.cell? ⟨pb, po, none⟩ = some (.slice A1 s.length c1) ∧ W.cell? ⟨pb, po + 1, none⟩ = some (.slice (some ⟨b, off, none⟩) r.length c2) ∧ W.cell? ⟨pb, po + 2, none⟩ = some (.slice A3 h.length c3) ∧ W.cell? ⟨b, off + i * 3, none⟩ = some (.string m.f) ∧ W.cell? ⟨b, off + i * 3 + 1, none⟩ = some (.int .i64 m.n) ∧ W.cell? ⟨b, off + i * 3 + 2, none⟩ = some (.string m.b) := fun W hb => ⟨keep hb hX.c0, keep hb hX.c1, keep hb hX.c2, keep hb d0, keep hb d1, keep hb d2⟩
  have HM : ∀ W, Below w.heap.size w W → Calls Try.prog 55 #[.slice A3 h.length c3, .agg #[.string m.f, .int .i64 m.n, .string m.b]] W (RV W (.bool (memM h m))) := fun W hb => Msg.Contains_any A3 c3 h m W hlh ((hO.o3.sl Msg.len).below hb).all
  clear hf d0 d1 d2
  go_enter Try.func40, Try.ntmps40
  go_wp2_with fail
  refine wp_region_quiet (C := fun w' => Below w.heap.size w w') (by kernel_rfl) (by kernel_rfl) ((Below.refl _ _).drew) ?_
  dsimp only [Array.toList]
  iterate 13
    with_reducible refine wpQuiet_step (fun K hK => ?_)
    go_simp
    first
      | (refine hK _ ?_; clear hK K)
      | (apply Exists.intro
         refine ⟨fun w' hw' => ?_, hK _ ?_⟩
         · obtain ⟨z0, z1, z2, z3, z4, z5⟩ := hcls w' hw'
           have M1 := HM w' hw'
           go_simp
           first
             | rfl
             | (refine M1.mono ?_; rintro e w1 ⟨rfl, hb⟩; exact ⟨rfl, hw'.trans (hb.mono hw'.size)⟩)
         clear hK K)
  refine wpQuiet_nil ?_
  intro W0 hW0
  replace hcls := hcls W0 hW0
  replace hX := hX.below hW0
  replace hO := hO.below hW0
  clear HM
  have hz := hW0.size
  by_cases g : memM h m = true
  · obtain rfl : h = L := by rw [← hL.out, addM, if_pos g]
    rw [g]
    go_wp2
    refine bodyPost_end (results_none Try.results40 _ _ _) rfl ?_
    exact ⟨A3, c3, rfl, hX, hO, hd3, hW0.mono hbs, fun b h _ _ => hW0.block b h, fun _ h _ => h, BoxB.same (hW0.block pb hpw)⟩
  · have hA : Hid (h ++ [m] = L) := Lib.hid (by rw [← hL.out, addM, if_neg g])
    have g : memM h m = false := by simpa using g
    rw [g]
    clear hL g
    go_upto_region 1 with fail
    refine wp_region_held_drew (S := fun _ => True) (by kernel_rfl) trivial (fun _ => ?_)
    replace hX := hX.drew
    replace hO := hO.drew
    change _ ∧ _ ∧ _ ∧ _ ∧ _ ∧ _ at hcls
    have hW0' := hW0.drew
    have hz' : w.heap.size ≤ W0.drew.heap.size := hz
    have hcls' : W0.drew.cell? ⟨pb, po, none⟩ = some (.slice A1 s.length c1) ∧ W0.drew.cell? ⟨pb, po + 1, none⟩ = some (.slice (some ⟨b, off, none⟩) r.length c2) ∧ W0.drew.cell? ⟨pb, po + 2, none⟩ = some (.slice A3 h.length c3) ∧ W0.drew.cell? ⟨b, off + i * 3, none⟩ = some (.string m.f) ∧ W0.drew.cell? ⟨b, off + i * 3 + 1, none⟩ = some (.int .i64 m.n) ∧ W0.drew.cell? ⟨b, off + i * 3 + 2, none⟩ = some (.string m.b) := hcls
    clear hcls
    generalize W0.drew = W1 at hX hO hcls' hW0' hz' ⊢
    change wpAnyH _ _ _ _ _ 17 #[false, false, false, false, false, false, false, false, false, false, false, false, false, false, false, false, false] _ _
    refine wpAnyH_takeL (i := 0) (v := .pointer (some ⟨pb, po, none⟩)) rfl (by kernel_rfl) (by kernel_rfl) (by kernel_rfl) (fun _ _ _ h => h) (Or.inl ⟨by rfl, fun w' _ => by go_simp⟩) trivial ?_
    simp only [Act.put, List.setIfInBounds_toArray, List.set_cons_zero, List.set_cons_succ]
    refine wpAnyH_takeL (i := 1) (v := .pointer (some ⟨pb, po, none⟩)) rfl (by kernel_rfl) (by kernel_rfl) (by kernel_rfl) (fun _ _ _ h => h) (Or.inl ⟨by rfl, fun w' _ => by go_simp⟩) trivial ?_
    simp only [Act.put, List.setIfInBounds_toArray, List.set_cons_zero, List.set_cons_succ]
    refine wpAnyH_takeL (i := 2) (v := .pointer (some ⟨pb, po, none⟩)) rfl (by kernel_rfl) (by kernel_rfl) (by kernel_rfl) (fun _ _ _ h => h) (Or.inl ⟨by rfl, fun w' _ => by go_simp⟩) trivial ?_
    simp only [Act.put, List.setIfInBounds_toArray, List.set_cons_zero, List.set_cons_succ]
    refine wpAnyH_takeL (i := 3) (v := .pointer (some ⟨pb, po + 2, none⟩)) rfl (by kernel_rfl) (by kernel_rfl) (by kernel_rfl) (fun _ _ _ h => h) (Or.inl ⟨by rfl, fun w' _ => by go_simp⟩) trivial ?_
    simp only [Act.put, List.setIfInBounds_toArray, List.set_cons_zero, List.set_cons_succ]
    refine wpAnyH_takeL (i := 5) (v := .pointer (some ⟨pb, po, none⟩)) rfl (by kernel_rfl) (by kernel_rfl) (by kernel_rfl) (fun _ _ _ h => h) (Or.inl ⟨by rfl, fun w' _ => by go_simp⟩) trivial ?_
    simp only [Act.put, List.setIfInBounds_toArray, List.set_cons_zero, List.set_cons_succ]
    refine wpAnyH_takeL (i := 6) (v := .pointer (some ⟨pb, po, none⟩)) rfl (by kernel_rfl) (by kernel_rfl) (by kernel_rfl) (fun _ _ _ h => h) (Or.inl ⟨by rfl, fun w' _ => by go_simp⟩) trivial ?_
    simp only [Act.put, List.setIfInBounds_toArray, List.set_cons_zero, List.set_cons_succ]
    refine wpAnyH_takeL (i := 7) (v := .pointer (some ⟨pb, po + 1, none⟩)) rfl (by kernel_rfl) (by kernel_rfl) (by kernel_rfl) (fun _ _ _ h => h) (Or.inl ⟨by rfl, fun w' _ => by go_simp⟩) trivial ?_
    simp only [Act.put, List.setIfInBounds_toArray, List.set_cons_zero, List.set_cons_succ]
    refine wpAnyH_takeL (i := 9) (v := .int .i64 i) rfl (by kernel_rfl) (by kernel_rfl) (by kernel_rfl) (fun _ _ _ h => h) (Or.inl ⟨by rfl, fun w' _ => by go_simp⟩) trivial ?_
    simp only [Act.put, List.setIfInBounds_toArray, List.set_cons_zero, List.set_cons_succ]
    refine wpAnyH_inv (m := 4) (I := fun n l a W => ∃ x y v21 v25 v27 v28 v29, n + x + y = 5 ∧ x ≤ 1 ∧ y ≤ 4 ∧ l = #[true, true, true, true, decide (1 ≤ x), true, true, true, decide (1 ≤ y), true, decide (2 ≤ y), decide (3 ≤ y), decide (4 ≤ y), false, false, false, false] ∧ a = ⟨#[.pointer (some ⟨pb, po, none⟩), .int .i64 i, undef, undef, .pointer (some ⟨pb, po, none⟩), .pointer (some ⟨pb, po, none⟩), .pointer (some ⟨pb, po + 2, none⟩), .slice A3 h.length c3, .pointer (some ⟨pb, po, none⟩), .pointer (some ⟨pb, po, none⟩), .pointer (some ⟨pb, po + 1, none⟩), .slice (some ⟨b, off, none⟩) r.length c2, .int .i64 i, .pointer (some ⟨b, off + i * 3, none⟩), .agg #[.string m.f, .int .i64 m.n, .string m.b], .bool false, .bool true, .pointer (some ⟨pb, po, none⟩), .pointer (some ⟨pb, po, none⟩), .pointer (some ⟨pb, po, none⟩), .pointer (some ⟨pb, po + 2, none⟩), v21, .pointer (some ⟨pb, po, none⟩), .pointer (some ⟨pb, po, none⟩), .pointer (some ⟨pb, po + 1, none⟩), v25, .int .i64 i, v27, v28, v29, undef, undef, undef], []⟩ ∧ (1 ≤ x → v21 = .slice A3 h.length c3) ∧ (1 ≤ y → v25 = .slice (some ⟨b, off, none⟩) r.length c2) ∧ (2 ≤ y → v27 = .pointer (some ⟨b, off + i * 3, none⟩)) ∧ (3 ≤ y → v28 = .agg #[.string m.f, .int .i64 m.n, .string m.b]) ∧ ((y ≤ 3 ∧ W = W1) ∨ (y = 4 ∧ v29 = .slice (some ⟨W1.heap.size, 0, none⟩) 1 1 ∧ W = W1.alloc (.cells #[.string m.f, .int .i64 m.n, .string m.b] 33))) ∧ W.cell? ⟨pb, po, none⟩ = some (.slice A1 s.length c1) ∧ W.cell? ⟨pb, po + 1, none⟩ = some (.slice (some ⟨b, off, none⟩) r.length c2) ∧ W.cell? ⟨pb, po + 2, none⟩ = some (.slice A3 h.length c3) ∧ W.cell? ⟨b, off + i * 3, none⟩ = some (.string m.f) ∧ W.cell? ⟨b, off + i * 3 + 1, none⟩ = some (.int .i64 m.n) ∧ W.cell? ⟨b, off + i * 3 + 2, none⟩ = some (.string m.b)) ?_ ?_ 5 _ _ _ ⟨0, 0, undef, undef, undef, undef, undef, rfl, by omega, by omega, rfl, rfl, by omega, by omega, by omega, by omega, .inl ⟨by omega, rfl⟩, hcls'⟩
    · rintro n l a W ⟨x, y, v21, v25, v27, v28, v29, hn, hx, hy, rfl, rfl, e21, e25, e27, e28, hW, hc⟩
      refine ⟨?_, fun i' o ho hi K hK => ?_⟩
      · rcases (by omega : x = 0 ∨ x = 1) with rfl | rfl <;> rcases (by omega : y = 0 ∨ y = 1 ∨ y = 2 ∨ y = 3 ∨ y = 4) with rfl | rfl | rfl | rfl | rfl <;> first | kernel_rfl | (exfalso; omega)
      · obtain ⟨hun, _⟩ := mem_ready.1 hi
        have hcont := List.contains_iff_mem.2 hi
        obtain ⟨z0, z1, z2, z3, z4, z5⟩ := id hc
        have hi17 : i' = 0 ∨ i' = 1 ∨ i' = 2 ∨ i' = 3 ∨ i' = 4 ∨ i' = 5 ∨ i' = 6 ∨ i' = 7 ∨ i' = 8 ∨ i' = 9 ∨ i' = 10 ∨ i' = 11 ∨ i' = 12 ∨ i' = 13 ∨ i' = 14 ∨ i' = 15 ∨ i' = 16 := by
          have := (List.getElem?_eq_some_iff.1 ho).1
          simp only [List.length_cons, List.length_nil] at this
          omega
        rcases hi17 with rfl | rfl | rfl | rfl | rfl | rfl | rfl | rfl | rfl | rfl | rfl | rfl | rfl | rfl | rfl | rfl | rfl
        · cases hun
        · cases hun
        · cases hun
        · cases hun
        · have hx0 : x = 0 := by have := of_decide_eq_false hun; omega
          subst hx0
          obtain rfl := Option.some.inj ho
          clear ho hi hcont hun
          go_simp
          exact hK.out _ _ trivial ⟨1, y, _, v25, v27, v28, v29, by omega, by omega, by omega, rfl, rfl, fun _ => rfl, e25, e27, e28, hW, hc⟩
        · cases hun
        · cases hun
        · cases hun
        · have hy1 : y ≤ 0 := by have := of_decide_eq_false hun; omega
          have hy0 : y = 0 := by
            omega
          subst hy0
          obtain rfl := Option.some.inj ho
          clear ho hi hcont hun
          replace hW : W = W1 := hW.elim And.right (fun h => absurd h.1 (by omega))
          subst hW
          go_simp
          exact hK.out _ _ trivial ⟨x, 1, v21, _, v27, v28, v29, by omega, by omega, by omega, rfl, rfl, e21, fun _ => rfl, by omega, by omega, .inl ⟨by omega, rfl⟩, hc⟩
        · cases hun
        · have hy1 : y ≤ 1 := by have := of_decide_eq_false hun; omega
          have hy0 : y = 1 := by
            rcases (by omega : x = 0 ∨ x = 1) with rfl | rfl <;> rcases (by omega : y = 0 ∨ y = 1) with rfl | rfl <;> first | rfl | exact absurd (hcont.symm.trans (by kernel_rfl : _ = false)) (by decide)
          subst hy0
          obtain rfl := Option.some.inj ho
          clear ho hi hcont hun
          replace hW : W = W1 := hW.elim And.right (fun h => absurd h.1 (by omega))
          obtain rfl := e25 (by omega)
          subst hW
          go_simp
          exact hK.out _ _ trivial ⟨x, 2, v21, _, _, v28, v29, by omega, by omega, by omega, rfl, rfl, e21, fun _ => rfl, fun _ => rfl, by omega, .inl ⟨by omega, rfl⟩, hc⟩
        · have hy1 : y ≤ 2 := by have := of_decide_eq_false hun; omega
          have hy0 : y = 2 := by
            rcases (by omega : x = 0 ∨ x = 1) with rfl | rfl <;> rcases (by omega : y = 0 ∨ y = 1 ∨ y = 2) with rfl | rfl | rfl <;> first | rfl | exact absurd (hcont.symm.trans (by kernel_rfl : _ = false)) (by decide)
          subst hy0
          obtain rfl := Option.some.inj ho
          clear ho hi hcont hun
          replace hW : W = W1 := hW.elim And.right (fun h => absurd h.1 (by omega))
          obtain rfl := e25 (by omega)
          obtain rfl := e27 (by omega)
          subst hW
          go_simp
          exact hK.out _ _ trivial ⟨x, 3, v21, _, _, _, v29, by omega, by omega, by omega, rfl, rfl, e21, fun _ => rfl, fun _ => rfl, fun _ => rfl, .inl ⟨by omega, rfl⟩, hc⟩
        · have hy1 : y ≤ 3 := by have := of_decide_eq_false hun; omega
          have hy0 : y = 3 := by
            rcases (by omega : x = 0 ∨ x = 1) with rfl | rfl <;> rcases (by omega : y = 0 ∨ y = 1 ∨ y = 2 ∨ y = 3) with rfl | rfl | rfl | rfl <;> first | rfl | exact absurd (hcont.symm.trans (by kernel_rfl : _ = false)) (by decide)
          subst hy0
          obtain rfl := Option.some.inj ho
          clear ho hi hcont hun
          replace hW : W = W1 := hW.elim And.right (fun h => absurd h.1 (by omega))
          obtain rfl := e25 (by omega)
          obtain rfl := e27 (by omega)
          obtain rfl := e28 (by omega)
          subst hW
          go_simp
          exact hK.out _ _ trivial ⟨x, 4, v21, _, _, _, _, by omega, by omega, by omega, rfl, rfl, e21, fun _ => rfl, fun _ => rfl, fun _ => rfl, .inr ⟨rfl, rfl, rfl⟩, lay _ z0, lay _ z1, lay _ z2, lay _ z3, lay _ z4, lay _ z5⟩
        · exfalso
          rcases (by omega : x = 0 ∨ x = 1) with rfl | rfl <;> rcases (by omega : y = 0 ∨ y = 1 ∨ y = 2 ∨ y = 3 ∨ y = 4) with rfl | rfl | rfl | rfl | rfl <;> first | omega | exact absurd (hcont.symm.trans (by kernel_rfl : _ = false)) (by decide)
        · exfalso
          rcases (by omega : x = 0 ∨ x = 1) with rfl | rfl <;> rcases (by omega : y = 0 ∨ y = 1 ∨ y = 2 ∨ y = 3 ∨ y = 4) with rfl | rfl | rfl | rfl | rfl <;> first | omega | exact absurd (hcont.symm.trans (by kernel_rfl : _ = false)) (by decide)
        · exfalso
          rcases (by omega : x = 0 ∨ x = 1) with rfl | rfl <;> rcases (by omega : y = 0 ∨ y = 1 ∨ y = 2 ∨ y = 3 ∨ y = 4) with rfl | rfl | rfl | rfl | rfl <;> first | omega | exact absurd (hcont.symm.trans (by kernel_rfl : _ = false)) (by decide)
        · exfalso
          rcases (by omega : x = 0 ∨ x = 1) with rfl | rfl <;> rcases (by omega : y = 0 ∨ y = 1 ∨ y = 2 ∨ y = 3 ∨ y = 4) with rfl | rfl | rfl | rfl | rfl <;> first | omega | exact absurd (hcont.symm.trans (by kernel_rfl : _ = false)) (by decide)
    · rintro l a W ⟨x, y, v21, v25, v27, v28, v29, hn, hx, hy, rfl, rfl, e21, e25, e27, e28, hW, hc⟩
      obtain ⟨rfl, rfl⟩ : x = 1 ∧ y = 4 := by omega
      obtain rfl := e21 (by omega)
      rcases hW with ⟨h, _⟩ | ⟨_, rfl, rfl⟩
      · omega
      change wpAnyH _ _ _ _ _ _ #[true, true, true, true, true, true, true, true, true, true, true, true, true, false, false, false, false] _ _
      refine wpAnyH_ready (rs := [13]) (by kernel_rfl) (by simp) ?_
      refine AllReadyH.consL rfl (fun K hK => ?_) AllReadyH.nil
      rw [if_pos (by rfl)]
      have hbs' : base ≤ (W1.alloc (.cells #[.string m.f, .int .i64 m.n, .string m.b] 33)).heap.size := by simp; omega
      refine wp_append_all (W1.alloc (.cells #[.string m.f, .int .i64 m.n, .string m.b] 33)) (.tmp 21) (.tmp 29) _ rfl i0 _ _ Try.underlying24 hi0 hz0 hz1 hz2 rfl (by omega) Msg.len Msg.one (hO.o3.alloc _) (sl_one W1 m) rfl rfl (by simp only [List.length_cons, List.length_nil]; unfold maxLen; omega) (by simp only [List.length_cons, List.length_nil]; omega) hbs' ?_
      intro A' c' V hOw hbw hbut hd
      refine hK.out _ _ trivial (fun _ => ?_)
      clear hK K
      have hO3 := (hO.below ((Below.refl _ _).alloc (Nat.le_refl _) _)).push3 hOw hbut hd
      have hlt : pb < W1.heap.size := hX.lt
      have hX3 := (hX.alloc (.cells #[.string m.f, .int .i64 m.n, .string m.b] 33)).same (hbut pb (hX.alloc _).lt (fun a ha => hd3 a _ ha rfl))
      have hdN := hd (some ⟨pb, 0, none⟩) hd3 (fun a ha => by injection ha with ha; subst ha; simp; omega)
      obtain ⟨g0, g1, g2, g3, g4, g5⟩ := id hX3
      refine wpAnyH_takeL (i := 14) (v := .pointer (some ⟨pb, po, none⟩)) rfl (by kernel_rfl) (by kernel_rfl) (by kernel_rfl) (fun _ _ _ h => h) (Or.inl ⟨by rfl, fun w' _ => by go_simp⟩) trivial ?_
      simp only [Act.put, List.setIfInBounds_toArray, List.set_cons_zero, List.set_cons_succ]
      refine wpAnyH_takeL (i := 15) (v := .pointer (some ⟨pb, po + 2, none⟩)) rfl (by kernel_rfl) (by kernel_rfl) (by kernel_rfl) (fun _ _ _ h => h) (Or.inl ⟨by rfl, fun w' _ => by go_simp⟩) trivial ?_
      simp only [Act.put, List.setIfInBounds_toArray, List.set_cons_zero, List.set_cons_succ]
      refine wpAnyH_ready (rs := [16]) (by kernel_rfl) (by simp) ?_
      refine AllReadyH.consL rfl (fun K hK => ?_) AllReadyH.nil
      go_simp
      refine hK.out _ _ trivial (fun _ => ?_)
      refine wpAnyH_done (by kernel_rfl) ?_ _
      have hFg : Fr pb (pb + 1) V (V.setCell ⟨pb, po + 2, none⟩ (.slice A' (h ++ [m]).length c')) := (Fr.refl _ _ _).setCell ⟨by simp, by simp⟩ _
      have hO4 := hO3.apart hFg hd1 hd2 hdN
      have hX4 := hX3.set2 (.slice A' (h ++ [m]).length c')
      have hB4 : Below base w (V.setCell ⟨pb, po + 2, none⟩ (.slice A' (h ++ [m]).length c')) := (((hW0'.mono hbs).alloc (by omega) _).trans hbw).trans (hFg.below (by omega) (by have := hbw.size; omega))
      have hBP : ButP A3 pb w (V.setCell ⟨pb, po + 2, none⟩ (.slice A' (h ++ [m]).length c')) := fun q hq hne hA2 => by
        have hq1 : q < (W1.alloc (.cells #[.string m.f, .int .i64 m.n, .string m.b] 33)).heap.size := by simp; omega
        rw [hFg.block q (by have := hbw.size; omega) (by omega), hbut q hq1 hA2, ((Below.refl _ W1).alloc (Nat.le_refl _) _).block q (by omega), hW0'.block q hq]
      go_wp2
      refine bodyPost_end (results_none Try.results40 _ _ _) rfl ?_
      obtain rfl := hA.out
      rw [show h.length + 1 = (h ++ [m]).length by simp]
      exact ⟨rfl, A', c', hX4, hO4, hdN, hB4, hBP, fun A h1 h2 => hd A h1 (fun a ha => by have := h2 a ha; simp; omega), BoxB.of ((hbut pb (hX.alloc _).lt (fun a ha => hd3 a _ ha rfl)).trans ((((Below.refl _ W1).alloc (Nat.le_refl _) _).block pb hlt).trans (hW0'.block pb hpw)))⟩
end Go.Proofs.Ytacjdapfbmdddaa

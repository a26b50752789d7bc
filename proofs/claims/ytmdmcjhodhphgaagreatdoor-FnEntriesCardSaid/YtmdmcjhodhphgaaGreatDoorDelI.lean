/- slices.IndexFunc and slices.DeleteFunc at ints. Conditions: at most 2^20 elements; the predicate answers in every world that differs in the list's own blocks alone. -/
import Derived.Test.YtmdmcjhodhphgaaGreatDoorInts
import Derived.Test.YtmdmcjhodhphgaaGreatDoorPost
import Derived.Shelf.Abstract
namespace Go.Proofs.YtmdmcjhodhphgaaGreatDoor
open Go.RowKit

section
variable {α : Type} {E : α → List Value} {k : Nat} {w : World} {lo hi b off : Nat} {l : List α}
theorem Sl.tail_setI {i : Nat} (h : Sl E k w lo hi (some ⟨b, off, none⟩) l) (hE : ∀ y, (E y).length = k) (vs : List Value) : Sl E k (w.setCells b (off + i * k) vs) lo hi (some ⟨b, off, none⟩) (l.take i) := fun hn => by
  have hn' : l ≠ [] := by rintro rfl; simp at hn
  obtain ⟨b', off', e1, c, d, g, f⟩ := h hn'
  injection e1 with e1
  injection e1 with e1 e2
  subst e1 e2
  refine ⟨b, off, rfl, c, d, by rw [setCells_heap_size]; exact g, fun a z hz j v hv => ?_⟩
  have hj : j < k := by have := (List.getElem?_eq_some_iff.1 hv).1; rw [hE] at this; exact this
  rw [World.frozen?_setCells]
  rw [List.getElem?_take] at hz
  by_cases ha : a < i
  · rw [if_pos ha] at hz
    have hold := f a z hz j v hv
    refine ⟨?_, hold.2⟩
    rw [World.cell?_setCells_out b _ _ _ _ (fun _ _ => ?_)]
    · exact hold.1
    · left
      show off + a * k + j < off + i * k
      have : (a + 1) * k ≤ i * k := Nat.mul_le_mul_right _ ha
      rw [Nat.add_mul, Nat.one_mul] at this
      omega
  · rw [if_neg ha] at hz; cases hz
end
theorem run_clear_cellsI {P : Program} (w : World) (t e ty : TypeId) (z : Value) (k : Nat) (ht : P.underlying t = some (.slice e)) (hv : ∀ w, (zeroValue e).run P w = .ok z w) (hz : z.cells.size = k) (hz1 : ∀ v ∈ z.cells.toList, v.oneCell' = true) (b o n c : Nat) (hn : 0 < n)
    (hc : ∀ j, j < n * k → (w.cell? ⟨b, o + j, none⟩).isSome = true) (hf : ∀ j, j < n * k → w.frozen? ⟨b, o + j, none⟩ = false) :
    (Builtin.clear_ #[t] ty #[.slice (some ⟨b, o, none⟩) n c]).run P w = .ok (.tuple #[]) (w.setCells b o (Builtin.zeroCells z.cells n).toList) := by
  have hsz : (Builtin.zeroCells z.cells n).toList.length = n * k := by rw [Array.length_toList, size_zeroCells, hz]
  have hst := run_storeCells_cells (P := P) b o (Builtin.zeroCells z.cells n).toList 0 w (by rw [hsz]; simpa using hc) (by rw [hsz]; simpa using hf) (by
    intro v hv'
    simp [Builtin.zeroCells] at hv'
    obtain ⟨i, hi, rfl⟩ := hv'
    by_cases hk : z.cells.size = 0
    · rw [hk, Nat.mul_zero] at hi; omega
    · have : i % z.cells.size < z.cells.size := Nat.mod_lt _ (by omega)
      apply hz1
      rw [getElem!_pos z.cells _ this]
      exact Array.getElem_mem_toList _)
  simp only [Nat.add_zero] at hst
  obtain ⟨m, rfl⟩ : ∃ m, n = m + 1 := ⟨n - 1, by omega⟩
  simp [Builtin.clear_, run_underlying ht, hv, hst]
def PredI (g : FuncId) (lb : Array Value) (p : Int → Bool) (lo hi : Nat) (l : List Int) (w : World) : Prop :=
  ∀ (W : World) (x : Int), x ∈ l → Fr lo hi w W → Calls Tryz.prog g (#[.int .i64 x] ++ lb) W fun e w' => e = .returned (.bool (p x)) ∧ Below W.heap.size W w'
set_option maxHeartbeats 1000000 in
theorem IndexFuncI_any (g : FuncId) (lb : Array Value) (p : Int → Bool) (A : Option Addr) (c lo hi lo' hi' : Nat) (l : List Int) (w : World) (eg : Enters g) (hl : l.length ≤ 1048576) (hS : Ints w lo hi A l) (hp : PredI g lb p lo' hi' l w) :
    Calls Tryz.prog 104 #[.slice A l.length c, .func (.func g) #[] lb] w (RV w (.int .i64 (idxG p l 0))) := by
  have eg' : ∀ args w, (callFunc g args).run Tryz.prog w = .ok (.enter g args) w := eg
  go_enter Tryz.func104, Tryz.ntmps104
  go_wp2_with fail
  go_loopw [8] (fun i wr => ∃ k : Nat, k ≤ l.length ∧ i = .int .i64 k ∧ Hid (idxG p (l.drop k) k = idxG p l 0) ∧ Below w.heap.size w wr) (fun i _ => l.length - (intOf i).toNat)
  case atStart => exact ⟨0, Nat.zero_le _, rfl, rfl, Below.refl _ _⟩
  case round =>
    obtain ⟨k, hk, rfl, HF, hB⟩ := hrel
    by_cases hlt : k < l.length
    · obtain ⟨x, hx, hx2⟩ := get_lt hlt
      have HC := Lib.hid (idxG_step (p := p) hx)
      obtain ⟨b, off, rfl, _, _, _, c0, _⟩ := Ints.at1 (hS.below hB) hx
      have hcall := hp wr x hx2 ⟨hB.os, hB.tape, hB.output, hB.size, fun b hb _ => hB.block b hb⟩
      clear hx hx2
      cases hq : p x with
      | true =>
        have HQ := Lib.hid (HC.out.trans (if_pos hq))
        rw [hq] at hcall
        clear HC hq
        go_wp2_with (go_at_fn g; refine hcall.mono ?_; rintro e w1 ⟨rfl, hb⟩)
        go_ret
        exact RV.mk (by rw [← HF.out, HQ.out]; rfl) (Below.on' hB hb)
      | false =>
        have HQ := Lib.hid (HC.out.trans (if_neg (by rw [hq]; exact Bool.false_ne_true)))
        rw [hq] at hcall
        clear HC hq
        go_wp2_with (go_at_fn g; refine hcall.mono ?_; rintro e w1 ⟨rfl, hb⟩)
        have hB1 := Below.on' hB hb
        go_roundw
        case rel => exact ⟨k + 1, by omega, by go_num, Lib.hid (HQ.out.symm.trans HF.out), hB1⟩
        case measure => simp [intOf]; omega
    · have hd : l.drop k = [] := List.drop_of_length_le (by omega)
      have HE : Hid ((-1 : Int) = idxG p l 0) := Lib.hid (by have := HF.out; rw [hd] at this; exact this)
      clear hd HF
      go_wp2
      go_ret
      exact RV.mk (by rw [← HE.out]; rfl) hB
theorem zeroI : ∀ w, (zeroValue 3).run Tryz.prog w = .ok (.int .i64 0) w := by
  obtain ⟨i0, hi0, hz0, _⟩ := info_parts Ints.info
  intro w
  simp [zeroValue, typeInfo, hi0, hz0]
set_option maxHeartbeats 4000000 in
theorem DeleteFuncI_any (g : FuncId) (lb : Array Value) (p : Int → Bool) (A : Option Addr) (c lo hi : Nat) (l : List Int) (w : World) (eg : Enters g) (hl : l.length ≤ 1048576) (hc : l.length ≤ c) (hc2 : c ≤ maxLen) (hS : Ints w lo hi A l) (hp : PredI g lb p lo hi l w) :
    Calls Tryz.prog 80 #[.slice A l.length c, .func (.func g) #[] lb] w fun e w' => e = .returned (.slice A (l.filter fun x => !p x).length c) ∧ Ints w' lo hi A (l.filter fun x => !p x) ∧ Fr lo hi w w' := by
  have eg' : ∀ args w, (callFunc g args).run Tryz.prog w = .ok (.enter g args) w := eg
  have hIF := IndexFuncI_any g lb p A c lo hi lo hi l w eg hl hS hp
  rcases idxG_spec p l 0 with ⟨e1, hall⟩ | ⟨k0, x0, hk0, e1, ht, hall⟩
  · have hfl : (l.filter fun x => !p x) = l := List.filter_eq_self.2 fun x hx => by rw [hall x hx]; rfl
    rw [hfl]
    rw [e1] at hIF
    clear e1 hall hfl hp hc hc2
    go_enter Tryz.func80, Tryz.ntmps80
    go_wp2_with (go_at_call 104; refine hIF.mono ?_; rintro e w1 ⟨rfl, hb⟩)
    go_ret
    exact ⟨rfl, hS.below hb, (Fr.refl _ _ _).on hb⟩
  have hk0l := (List.getElem?_eq_some_iff.1 hk0).1
  obtain ⟨b, off, rfl, hlo, hhi, hsz, hff⟩ := hS.at_ hk0
  clear hff
  rw [show idxG p l 0 = (k0 : Int) by rw [e1]; omega] at hIF
  unfold maxLen at hc2
  have hst : (l.take k0).filter (fun x => !p x) = (l.take (k0 + 1)).filter (fun x => !p x) := by
    rw [take_snoc hk0, List.filter_append]
    simp [ht]
  have hst2 : (l.take k0).filter (fun x => !p x) = l.take k0 := List.filter_eq_self.2 fun x hx => by rw [hall x hx]; rfl
  have HST := Lib.hid (hst2.symm.trans hst)
  clear e1 hall ht hst hst2 hk0 x0
  have hne1 : ((k0 : Int) == -1) = false := beq_eq_false_iff_ne.2 (by omega)
  go_enter Tryz.func80, Tryz.ntmps80
  go_wp2_with (go_at_call 104; refine hIF.mono ?_; rintro e w1 ⟨rfl, hb⟩)
  have hF1 : Fr lo hi w w1 := (Fr.refl _ _ _).on hb
  have hS1 := hS.below hb
  clear hb hS hIF
  go_loopw [5, 6] (fun s5 s6 wr => ∃ (i j : Nat) (M : List Int), s5 = .int .i64 i ∧ s6 = .int .i64 j ∧ j ≤ l.length ∧ i < j ∧ Hid (M.length = l.length ∧ M.take i = (l.take j).filter (fun x => !p x) ∧ ∀ t, j ≤ t → M[t]? = l[t]?) ∧ Ints wr lo hi (some ⟨b, off, none⟩) M ∧ Fr lo hi w wr) (fun _ s6 _ => l.length - (intOf s6).toNat)
  case atStart => exact ⟨k0, k0 + 1, l, rfl, by go_num, by omega, by omega, Lib.hid ⟨rfl, HST.out, fun _ _ => rfl⟩, hS1, hF1⟩
  case round =>
    obtain ⟨i, j, M, rfl, rfl, hj, hij, HM, hT, hF⟩ := hrel
    by_cases hlt : j < l.length
    · obtain ⟨x, hx, hx2⟩ := get_lt hlt
      have hMx : M[j]? = some x := (HM.out.2.2 j (Nat.le_refl _)).trans hx
      have hML := HM.out.1
      obtain ⟨y, hMy, _⟩ := get_lt (l := M) (i := i) (by omega)
      have hMil : i < M.length := by omega
      clear hML
      obtain ⟨_, _, e, _, _, _, c0, _⟩ := Ints.at1 hT hMx
      cases e
      have hcall := hp wr x hx2 hF
      have HX := Lib.hid hx
      clear hx hx2 hMx
      cases hq : p x with
      | true =>
        rw [hq] at hcall
        have HQ := Lib.hid hq
        clear hq hMy
        go_wp2_with (go_at_fn g; refine hcall.mono ?_; rintro e w2 ⟨rfl, hb⟩)
        have hF3 := hF.on hb
        have hT3 := hT.below hb
        clear hb hcall
        go_roundw
        case rel =>
          refine ⟨i, j + 1, M, rfl, by go_num, by omega, by omega, Lib.hid ⟨HM.out.1, ?_, fun t ht => HM.out.2.2 t (by omega)⟩, hT3, hF3⟩
          rw [HM.out.2.1, take_snoc HX.out, List.filter_append]
          simp [HQ.out]
        case measure => simp [intOf]; omega
      | false =>
        rw [hq] at hcall
        have HQ := Lib.hid hq
        clear hq
        go_wp2_with (go_at_fn g; refine hcall.mono ?_; rintro e w2 ⟨rfl, hb⟩; have hF3 := hF.on hb; have hT3 := hT.below hb; obtain ⟨_, _, ee, _, _, _, d0, d1⟩ := Ints.at1 hT3 hMy; cases ee)
        go_roundw
        case rel =>
          have s1 := Sl.set1 (j := 0) (y := x) (u := .int .i64 x) hT3 hMy Ints.len (by omega) rfl
          rw [Nat.mul_one, Nat.add_zero] at s1
          have g1 := hF3.setCell (p := ⟨b, off + i, none⟩) ⟨hlo, hhi⟩ (.int .i64 x)
          refine ⟨i + 1, j + 1, M.set i x, by go_num, by go_num, by omega, by omega, Lib.hid ⟨by rw [List.length_set]; exact HM.out.1, ?_, fun t ht => ?_⟩, s1, g1⟩
          · have hMl := (List.getElem?_eq_some_iff.1 hMy).1
            rw [take_snoc (x := x) (by rw [List.getElem?_set_self hMl]), List.take_set_of_le (Nat.le_refl _), HM.out.2.1, take_snoc HX.out, List.filter_append]
            simp [HQ.out]
          · rw [List.getElem?_set_ne (by omega)]
            exact HM.out.2.2 t (by omega)
        case measure => simp [intOf]; omega
    · obtain rfl : l.length = j := by omega
      have hML := HM.out.1
      have hMi : M.take i = l.filter (fun x => !p x) := by rw [HM.out.2.1, List.take_length]
      have hlen : (l.filter fun x => !p x).length = i := by rw [← hMi, List.length_take]; omega
      have hic : i < c := by omega
      have hic2 : ¬ c = i := by omega
      have hil : (i : Int) ≤ l.length := by omega
      have hcells : ∀ t, t < (l.length - i) * 1 → ∃ u, wr.cell? ⟨b, off + i + t, none⟩ = some u ∧ wr.frozen? ⟨b, off + i + t, none⟩ = false := by
        intro t ht
        obtain ⟨y, hMy, _⟩ := get_lt (l := M) (i := i + t) (by omega)
        obtain ⟨_, _, e, _, _, _, h1, h2⟩ := Ints.at1 hT hMy
        cases e
        rw [← Nat.add_assoc] at h1 h2
        exact ⟨_, h1, h2⟩
      have hcl : ∀ ty, (Builtin.clear_ #[37] ty #[.slice (some ⟨b, off + i, none⟩) (l.length - i) (c - i)]).run Tryz.prog wr = .ok (.tuple #[]) (wr.setCells b (off + i) (Builtin.zeroCells #[.int .i64 0] (l.length - i)).toList) :=
        fun ty => run_clear_cellsI wr _ _ ty _ 1 Tryz.underlying37 zeroI rfl (by intro v hv; simp [Value.cells] at hv; subst hv; rfl) b (off + i) _ _ (by omega) (fun t ht => by obtain ⟨u, h, _⟩ := hcells t ht; rw [h]; rfl) (fun t ht => by obtain ⟨u, _, h⟩ := hcells t ht; exact h)
      have hTe := Sl.tail_setI (i := i) hT Ints.len (Builtin.zeroCells #[.int .i64 0] (l.length - i)).toList
      rw [hMi, Nat.mul_one] at hTe
      have hFe := Fr.setCells (b := b) ⟨hlo, hhi⟩ (Builtin.zeroCells #[.int .i64 0] (l.length - i)).toList (off + i) hF
      generalize (Builtin.zeroCells #[.int .i64 0] (l.length - i)).toList = Z at hcl hTe hFe
      have HLEN := Lib.hid hlen
      clear hlen hMi hcells hML HM hT hF
      go_wp2
      go_ret
      exact ⟨by rw [HLEN.out]; rfl, hTe, hFe⟩
end Go.Proofs.YtmdmcjhodhphgaaGreatDoor

/- slices.DeleteFunc at messages. Condition: the predicate answers p wherever it is asked, and leaves old memory alone. -/
import Derived.Test.YtjmjilkpckbpeaaGreatDoorLB
namespace Go.Proofs.YtjmjilkpckbpeaaGreatDoor
open Go.RowKit

section
variable {α : Type} {E : α → List Value} {k : Nat} {w : World} {lo hi b off : Nat} {l : List α}
/-- All cells of one element written. -/
theorem Sl.set_allM {i : Nat} {x y : α} (h : Sl E k w lo hi (some ⟨b, off, none⟩) l) (hx : l[i]? = some x) (hE : ∀ y, (E y).length = k) :
    Sl E k (w.setCells b (off + i * k) (E y)) lo hi (some ⟨b, off, none⟩) (l.set i y) := fun _ => by
  have hn : l ≠ [] := by rintro rfl; simp at hx
  obtain ⟨b', off', e1, c, d, g, f⟩ := h hn
  injection e1 with e1
  injection e1 with e1 e2
  subst e1 e2
  refine ⟨b, off, rfl, c, d, by rw [setCells_heap_size]; exact g, fun a z hz j v hv => ?_⟩
  have hj : j < k := by have := (List.getElem?_eq_some_iff.1 hv).1; rw [hE] at this; exact this
  rw [World.frozen?_setCells]
  by_cases ha : a = i
  · subst ha
    have hz' : z = y := by
      rw [List.getElem?_set_self (List.getElem?_eq_some_iff.1 hx).1] at hz
      exact (Option.some.inj hz).symm
    subst hz'
    have hjx : j < (E x).length := by rw [hE]; exact hj
    have hold := f a x hx j _ (List.getElem?_eq_getElem hjx)
    refine ⟨?_, hold.2⟩
    have hj2 : j < (E z).length := by rw [hE]; exact hj
    have := World.cell?_setCells_in b (E z) (off + a * k) w (fun t ht => by
      rw [hE] at ht
      have htx : t < (E x).length := by rw [hE]; exact ht
      rw [(f a x hx t _ (List.getElem?_eq_getElem htx)).1]; rfl) j hj2
    rw [this]
    exact congrArg some (List.getElem?_eq_some_iff.1 hv).2
  · rw [List.getElem?_set_ne (fun e => ha e.symm)] at hz
    have hold := f a z hz j v hv
    refine ⟨?_, hold.2⟩
    rw [World.cell?_setCells_out b _ _ _ _ (fun _ _ => ?_)]
    · exact hold.1
    · rw [hE]
      rcases Nat.lt_or_ge a i with hlt | hge
      · left
        show off + a * k + j < off + i * k
        have : (a + 1) * k ≤ i * k := Nat.mul_le_mul_right _ hlt
        rw [Nat.add_mul, Nat.one_mul] at this
        omega
      · right
        show off + i * k + k ≤ off + a * k + j
        have : (i + 1) * k ≤ a * k := Nat.mul_le_mul_right _ (by omega)
        rw [Nat.add_mul, Nat.one_mul] at this
        omega
/-- Cells behind the first i elements written. -/
theorem Sl.tail_setM {i : Nat} (h : Sl E k w lo hi (some ⟨b, off, none⟩) l) (hE : ∀ y, (E y).length = k) (vs : List Value) : Sl E k (w.setCells b (off + i * k) vs) lo hi (some ⟨b, off, none⟩) (l.take i) := fun hn => by
  have hn' : l ≠ [] := by rintro rfl; simp at hn
  obtain ⟨b', off', e1, c, d, g, f⟩ := h hn'
  injection e1 with e1
  injection e1 with e1 e2
  subst e1 e2
  refine ⟨b, off, rfl, c, d, by rw [setCells_heap_size]; exact g, fun a z hz j v hv => ?_⟩
  have hj : j < k := by have := (List.getElem?_eq_some_iff.1 hv).1; rw [hE] at this; exact this
  rw [World.frozen?_setCells]
  rw [List.getElem?_take] at hz
  by_cases ha : a < i
  · rw [if_pos ha] at hz
    have hold := f a z hz j v hv
    refine ⟨?_, hold.2⟩
    rw [World.cell?_setCells_out b _ _ _ _ (fun _ _ => ?_)]
    · exact hold.1
    · left
      show off + a * k + j < off + i * k
      have : (a + 1) * k ≤ i * k := Nat.mul_le_mul_right _ ha
      rw [Nat.add_mul, Nat.one_mul] at this
      omega
  · rw [if_neg ha] at hz; cases hz
end
/-- clear(s), s a slice of n > 0 elements of k cells each. -/
theorem run_clear_cellsM {P : Program} (w : World) (t e ty : TypeId) (z : Value) (k : Nat) (ht : P.underlying t = some (.slice e)) (hv : ∀ w, (zeroValue e).run P w = .ok z w) (hz : z.cells.size = k) (hz1 : ∀ v ∈ z.cells.toList, v.oneCell' = true) (b o n c : Nat) (hn : 0 < n)
    (hc : ∀ j, j < n * k → (w.cell? ⟨b, o + j, none⟩).isSome = true) (hf : ∀ j, j < n * k → w.frozen? ⟨b, o + j, none⟩ = false) :
    (Builtin.clear_ #[t] ty #[.slice (some ⟨b, o, none⟩) n c]).run P w = .ok (.tuple #[]) (w.setCells b o (Builtin.zeroCells z.cells n).toList) := by
  have hsz : (Builtin.zeroCells z.cells n).toList.length = n * k := by rw [Array.length_toList, size_zeroCells, hz]
  have hst := run_storeCells_cells (P := P) b o (Builtin.zeroCells z.cells n).toList 0 w (by rw [hsz]; simpa using hc) (by rw [hsz]; simpa using hf) (by
    intro v hv'
    simp [Builtin.zeroCells] at hv'
    obtain ⟨i, hi, rfl⟩ := hv'
    by_cases hk : z.cells.size = 0
    · rw [hk, Nat.mul_zero] at hi; omega
    · have : i % z.cells.size < z.cells.size := Nat.mod_lt _ (by omega)
      apply hz1
      rw [getElem!_pos z.cells _ this]
      exact Array.getElem_mem_toList _)
  simp only [Nat.add_zero] at hst
  obtain ⟨m, rfl⟩ : ∃ m, n = m + 1 := ⟨n - 1, by omega⟩
  simp [Builtin.clear_, run_underlying ht, hv, hst]

theorem zeroM : ∀ w, (zeroValue 33).run Tryz.prog w = .ok (.agg #[.string ⟨#[]⟩, .int .i64 0, .string ⟨#[]⟩]) w := by
  obtain ⟨i0, hi0, hz0, _⟩ := info_parts Msg.info
  intro w
  simp [zeroValue, typeInfo, hi0, hz0]
set_option maxHeartbeats 4000000 in
theorem Msg.DeleteFunc_any (g : FuncId) (lb : Array Value) (p : Msg → Bool) (A : Option Addr) (c lo hi : Nat) (l : List Msg) (w : World) (eg : Enters g) (hl : l.length ≤ 1048576) (hc : l.length ≤ c) (hc2 : c ≤ maxLen) (hS : Msgs w lo hi A l) (hp : Msg.Pred g lb p lo hi l w) :
    Calls Tryz.prog 75 #[.slice A l.length c, .func (.func g) #[] lb] w fun e w' => e = .returned (.slice A (l.filter fun x => !p x).length c) ∧ Msgs w' lo hi A (l.filter fun x => !p x) ∧ Fr lo hi w w' := by
  have eg' : ∀ args w, (callFunc g args).run Tryz.prog w = .ok (.enter g args) w := eg
  have hIF := Msg.IndexFunc_any g lb p A c lo hi lo hi l w eg hl hS hp
  rcases idxG_spec p l 0 with ⟨e1, hall⟩ | ⟨k0, x0, hk0, e1, ht, hall⟩
  · have hfl : (l.filter fun x => !p x) = l := List.filter_eq_self.2 fun x hx => by rw [hall x hx]; rfl
    rw [hfl]
    rw [e1] at hIF
    clear e1 hall hfl hp hc hc2
    go_enter Tryz.func75, Tryz.ntmps75
    go_wp2_with (go_at_call 133; refine hIF.mono ?_; rintro e w1 ⟨rfl, hb⟩)
    go_ret
    exact ⟨rfl, hS.below hb, (Fr.refl _ _ _).on hb⟩
  have hk0l := (List.getElem?_eq_some_iff.1 hk0).1
  obtain ⟨b, off, rfl, hlo, hhi, hsz, hff⟩ := hS.at_ hk0
  clear hff
  rw [show idxG p l 0 = (k0 : Int) by rw [e1]; omega] at hIF
  unfold maxLen at hc2
  have hst : (l.take k0).filter (fun x => !p x) = (l.take (k0 + 1)).filter (fun x => !p x) := by
    rw [take_snoc hk0, List.filter_append]
    simp [ht]
  have hst2 : (l.take k0).filter (fun x => !p x) = l.take k0 := List.filter_eq_self.2 fun x hx => by rw [hall x hx]; rfl
  have HST := Lib.hid (hst2.symm.trans hst)
  clear e1 hall ht hst hst2 hk0 x0
  have hne1 : ((k0 : Int) == -1) = false := beq_eq_false_iff_ne.2 (by omega)
  go_enter Tryz.func75, Tryz.ntmps75
  go_wp2_with (go_at_call 133; refine hIF.mono ?_; rintro e w1 ⟨rfl, hb⟩)
  have hF1 : Fr lo hi w w1 := (Fr.refl _ _ _).on hb
  have hS1 := hS.below hb
  clear hb hS hIF
  go_loopw [5, 6] (fun s5 s6 wr => ∃ (i j : Nat) (M : List Msg), s5 = .int .i64 i ∧ s6 = .int .i64 j ∧ j ≤ l.length ∧ i < j ∧ Hid (M.length = l.length ∧ M.take i = (l.take j).filter (fun x => !p x) ∧ ∀ t, j ≤ t → M[t]? = l[t]?) ∧ Msgs wr lo hi (some ⟨b, off, none⟩) M ∧ Fr lo hi w wr) (fun _ s6 _ => l.length - (intOf s6).toNat)
  case atStart => exact ⟨k0, k0 + 1, l, rfl, by go_num, by omega, by omega, Lib.hid ⟨rfl, HST.out, fun _ _ => rfl⟩, hS1, hF1⟩
  case round =>
    obtain ⟨i, j, M, rfl, rfl, hj, hij, HM, hT, hF⟩ := hrel
    by_cases hlt : j < l.length
    · obtain ⟨x, hx, hx2⟩ := get_lt hlt
      have hMx : M[j]? = some x := (HM.out.2.2 j (Nat.le_refl _)).trans hx
      have hML := HM.out.1
      obtain ⟨y, hMy, _⟩ := get_lt (l := M) (i := i) (by omega)
      clear hML
      obtain ⟨b', off', e, _, _, _, hf⟩ := hT.at_ hMx
      cases e
      have c0 : wr.cell? ⟨b, off + j * 3, none⟩ = some (.string x.f) := (hf 0 _ rfl).1
      have c1 : wr.cell? ⟨b, off + j * 3 + 1, none⟩ = some (.int .i64 x.n) := (hf 1 _ rfl).1
      have c2 : wr.cell? ⟨b, off + j * 3 + 2, none⟩ = some (.string x.b) := (hf 2 _ rfl).1
      clear hf
      have hcall := hp (wr.alloc (.cells #[.string x.f, .int .i64 x.n, .string x.b] 33)) x hx2 (hF.alloc _)
      have HX := Lib.hid hx
      clear hx hx2 hMx
      cases hq : p x with
      | true =>
        rw [hq] at hcall
        have hF2 : ∀ w', Below (wr.alloc (.cells #[.string x.f, .int .i64 x.n, .string x.b] 33)).heap.size (wr.alloc (.cells #[.string x.f, .int .i64 x.n, .string x.b] 33)) w' → Fr lo hi w w' ∧ Msgs w' lo hi (some ⟨b, off, none⟩) M := fun w' hb => ⟨(hF.alloc _).on hb, (hT.alloc _).below hb⟩
        have HQ := Lib.hid hq
        clear hq hMy
        go_wp2_with (go_at_fn g; refine hcall.mono ?_; rintro e w2 ⟨rfl, hb⟩)
        obtain ⟨hF3, hT3⟩ := hF2 _ hb
        clear hF2 hb hcall
        go_roundw
        case rel =>
          refine ⟨i, j + 1, M, rfl, by go_num, by omega, by omega, Lib.hid ⟨HM.out.1, ?_, fun t ht => HM.out.2.2 t (by omega)⟩, hT3, hF3⟩
          rw [HM.out.2.1, take_snoc HX.out, List.filter_append]
          simp [HQ.out]
        case measure => simp [intOf]; omega
      | false =>
        rw [hq] at hcall
        have HQ := Lib.hid hq
        clear hq
        have hW : ∀ w', Below (wr.alloc (.cells #[.string x.f, .int .i64 x.n, .string x.b] 33)).heap.size (wr.alloc (.cells #[.string x.f, .int .i64 x.n, .string x.b] 33)) w' → Fr lo hi w w' ∧ Msgs w' lo hi (some ⟨b, off, none⟩) M ∧ (∀ t u, (x.cells)[t]? = some u → w'.cell? ⟨wr.heap.size, t, none⟩ = some u) := fun w' hb => ⟨(hF.alloc _).on hb, (hT.alloc _).below hb, fun t u hu => keep hb (new_cells (E := Msg.cells) wr 33 x _ rfl t u hu)⟩
        go_wp2_with (go_at_fn g; refine hcall.mono ?_; rintro e w2 ⟨rfl, hb⟩; obtain ⟨hF3, hT3, hN⟩ := hW _ hb; have n0 : w2.cell? ⟨wr.heap.size, 0, none⟩ = some (.string x.f) := hN 0 _ rfl; have n1 : w2.cell? ⟨wr.heap.size, 1, none⟩ = some (.int .i64 x.n) := hN 1 _ rfl; have n2 : w2.cell? ⟨wr.heap.size, 2, none⟩ = some (.string x.b) := hN 2 _ rfl; obtain ⟨b', off', e, _, _, _, hf⟩ := hT3.at_ hMy; cases e; have d0 : w2.cell? ⟨b, off + i * 3, none⟩ = some (.string y.f) := (hf 0 _ rfl).1; have d1 : w2.cell? ⟨b, off + i * 3 + 1, none⟩ = some (.int .i64 y.n) := (hf 1 _ rfl).1; have d2 : w2.cell? ⟨b, off + i * 3 + 2, none⟩ = some (.string y.b) := (hf 2 _ rfl).1; have f0 : w2.frozen? ⟨b, off + i * 3, none⟩ = false := (hf 0 _ rfl).2; have f1 : w2.frozen? ⟨b, off + i * 3 + 1, none⟩ = false := (hf 1 _ rfl).2; have f2 : w2.frozen? ⟨b, off + i * 3 + 2, none⟩ = false := (hf 2 _ rfl).2; clear hf hN hW hcall hb c0 c1 c2)
        go_roundw
        case rel =>
          have s1 := Sl.set_allM (y := x) hT3 hMy Msg.len
          have g1 := Fr.setCells (b := b) ⟨hlo, hhi⟩ x.cells (off + i * 3) hF3
          refine ⟨i + 1, j + 1, M.set i x, by go_num, by go_num, by omega, by omega, Lib.hid ⟨by rw [List.length_set]; exact HM.out.1, ?_, fun t ht => ?_⟩, s1, g1⟩
          · have hMl := (List.getElem?_eq_some_iff.1 hMy).1
            rw [take_snoc (x := x) (by rw [List.getElem?_set_self hMl]), List.take_set_of_le (Nat.le_refl _), HM.out.2.1, take_snoc HX.out, List.filter_append]
            simp [HQ.out]
          · rw [List.getElem?_set_ne (by omega)]
            exact HM.out.2.2 t (by omega)
        case measure => simp [intOf]; omega
    · obtain rfl : l.length = j := by omega
      have hML := HM.out.1
      have hMi : M.take i = l.filter (fun x => !p x) := by rw [HM.out.2.1, List.take_length]
      have hlen : (l.filter fun x => !p x).length = i := by rw [← hMi, List.length_take]; omega
      have hic : i < c := by omega
      have hic2 : ¬ c = i := by omega
      have hil : (i : Int) ≤ l.length := by omega
      have hcells : ∀ t, t < (l.length - i) * 3 → ∃ u, wr.cell? ⟨b, off + i * 3 + t, none⟩ = some u ∧ wr.frozen? ⟨b, off + i * 3 + t, none⟩ = false := by
        intro t ht
        obtain ⟨y, hMy, _⟩ := get_lt (l := M) (i := i + t / 3) (by omega)
        obtain ⟨b', off', e, _, _, _, hf⟩ := hT.at_ hMy
        cases e
        have hm3 : t % 3 < (Msg.cells y).length := by rw [Msg.len]; omega
        have := hf (t % 3) _ (List.getElem?_eq_getElem hm3)
        rw [show off + (i + t / 3) * 3 + t % 3 = off + i * 3 + t by omega] at this
        exact ⟨_, this.1, this.2⟩
      have hcl : ∀ ty, (Builtin.clear_ #[24] ty #[.slice (some ⟨b, off + i * 3, none⟩) (l.length - i) (c - i)]).run Tryz.prog wr = .ok (.tuple #[]) (wr.setCells b (off + i * 3) (Builtin.zeroCells #[.string ⟨#[]⟩, .int .i64 0, .string ⟨#[]⟩] (l.length - i)).toList) :=
        fun ty => run_clear_cellsM wr _ _ ty _ 3 Tryz.underlying24 zeroM rfl (by intro v hv; simp [Value.cells] at hv; rcases hv with rfl | rfl | rfl <;> rfl) b (off + i * 3) _ _ (by omega) (fun t ht => by obtain ⟨u, h, _⟩ := hcells t ht; rw [h]; rfl) (fun t ht => by obtain ⟨u, _, h⟩ := hcells t ht; exact h)
      have hTe := Sl.tail_setM (i := i) hT Msg.len (Builtin.zeroCells #[.string ⟨#[]⟩, .int .i64 0, .string ⟨#[]⟩] (l.length - i)).toList
      rw [hMi] at hTe
      have hFe := Fr.setCells (b := b) ⟨hlo, hhi⟩ (Builtin.zeroCells #[.string ⟨#[]⟩, .int .i64 0, .string ⟨#[]⟩] (l.length - i)).toList (off + i * 3) hF
      generalize (Builtin.zeroCells #[.string ⟨#[]⟩, .int .i64 0, .string ⟨#[]⟩] (l.length - i)).toList = Z at hcl hTe hFe
      have HLEN := Lib.hid hlen
      clear hlen hMi hcells hML HM hT hF
      go_wp2
      go_ret
      exact ⟨by rw [HLEN.out]; rfl, hTe, hFe⟩
end Go.Proofs.YtjmjilkpckbpeaaGreatDoor

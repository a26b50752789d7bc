/- Slices that come in as arguments, opened to plain lists. No conditions. -/
import Derived.Test.YtacjdapfbmdddaaMem
import Derived.Test.YtacjdapfbmdddaaRow
import Derived.Deep.Slices
namespace Go.Proofs.Ytacjdapfbmdddaa
open Go.ChangeShapes Go.WideShapes Go.ChangeAt Go.RowKit Go.Joins Go.Deep

theorem list_of {α : Type} {Q : Nat → α → Prop} : ∀ n : Nat, (∀ i, i < n → ∃ x, Q i x) → ∃ l : List α, l.length = n ∧ ∀ i x, l[i]? = some x → Q i x
  | 0, _ => ⟨[], rfl, fun i x h => by simp at h⟩
  | n + 1, h => by
    obtain ⟨l, hl, hQ⟩ := list_of n (fun i hi => h i (by omega))
    obtain ⟨x, hx⟩ := h n (by omega)
    refine ⟨l ++ [x], by simp [hl], fun i y hy => ?_⟩
    by_cases hi : i < n
    · rw [List.getElem?_append_left (by omega)] at hy
      exact hQ i y hy
    · rw [List.getElem?_append_right (by omega)] at hy
      have hi0 : i = n := by
        have := (List.getElem?_eq_some_iff.1 hy).1
        simp at this
        omega
      subst hi0
      simp [hl] at hy
      subst hy
      exact hx

theorem plain_addr {W : World} {a : Addr} {v : Value} (h : W.cell? a = some v) : a = ⟨a.block, a.off, none⟩ := by
  obtain ⟨b, o, s⟩ := a
  have := World.cell?_spot h
  simp at this
  subst this
  rfl

section
variable {H : Type} {enc : TypeId × Value → H} {P : Program} {W : World}
theorem open_sl {α : Type} {E : α → List Value} {k : Nat} (Good : α → Prop) {t e : TypeId} {v : Value} {d : DataW H} {p : List MemPlace} {r : Reach} {b0 : Nat} (ht : P.underlying t = some (.slice e)) (hC : P.cellsOf e = k) (hk : 0 < k) (hE : ∀ x : α, (E x).length = k)
    (rd : ∀ (n : Nat) (cs' : List Value) (y : DataW H × List MemPlace), cs'.length = k → DataW.trod enc P W 0 (fun _ => true) true n e cs' = some y → ∃ x, E x = cs' ∧ Good x)
    (hv : Value.okWide P W r b0 t v) (h : DataW.Trod enc P W 0 (fun _ => true) true t v d p) (hlt : ∀ x ∈ p, x.block < W.heap.size) (hnf : W.noneFrozen p) :
    ∃ (A : Option Addr) (c : Nat) (l : List α), v = .slice A l.length c ∧ l.length ≤ maxLen ∧ (∀ x ∈ l, Good x) ∧ Sl E k W 0 W.heap.size A l := by
  obtain ⟨A, len, cap, rfl⟩ := okWide_slice ht hv
  obtain ⟨fuel, hf⟩ := h
  simp only [Value.cells] at hf
  rcases open_slice ht hf with ⟨h0, _⟩ | ⟨a, len', cap', m, n, D, Pl, hcs, _, hl, hm, hmm, hx, hi⟩
  · simp at h0
    obtain ⟨rfl, rfl, rfl⟩ := h0
    exact ⟨none, 0, [], rfl, Nat.zero_le _, by simp, Sl.nil_⟩
  · simp at hcs
    obtain ⟨rfl, rfl, rfl⟩ := hcs
    simp only [if_true] at hmm
    subst hmm
    rw [hC] at hx hi
    simp only [Prod.mk.injEq] at hx
    obtain ⟨l, hll, hQ⟩ := list_of (Q := fun i (x : α) => Good x ∧ ∀ j u, (E x)[j]? = some u → W.cell? ((a.add (i * k)).add j) = some u) len (fun i hi' => by
      obtain ⟨cs', hc, ht'⟩ := hi i (by omega)
      obtain ⟨_, hcl, hat⟩ := World.cells?_some hc
      obtain ⟨x, hx1, hx2⟩ := rd n cs' _ hcl ht'
      refine ⟨x, hx2, fun j u hj => ?_⟩
      rw [hx1] at hj
      rw [hat j (by rw [← hcl]; exact (List.getElem?_eq_some_iff.1 hj).1)]
      exact hj)
    subst hll
    refine ⟨some a, _, l, rfl, by omega, fun x hx => ?_, fun hn => ?_⟩
    · obtain ⟨i, hi⟩ := List.mem_iff_getElem?.1 hx
      exact (hQ i x hi).1
    · have hp : ∀ q, q < m * k → MemPlace.cell a.block (a.off + q) ∈ p := fun q hq => by
        rw [hx.2]
        exact List.mem_append_left _ (MemPlace.mem_row.2 ⟨q, hq, rfl⟩)
      have hpos : 0 < l.length := by
        cases l with
        | nil => exact absurd rfl hn
        | cons _ _ => simp
      have hk0 : 0 < m * k := Nat.mul_pos (by omega) hk
      -- the first cell is there, so the address is a plain one
      have hplain : a = ⟨a.block, a.off, none⟩ := by
        obtain ⟨cs', hc, _⟩ := hi 0 (by omega)
        obtain ⟨_, hcl, hat⟩ := World.cells?_some hc
        have h1 := hat 0 hk
        rw [List.getElem?_eq_getElem (by omega)] at h1
        have e0 : (a.add (0 * k)).add 0 = a := by simp [Addr.add]
        rw [e0] at h1
        exact plain_addr h1
      refine ⟨a.block, a.off, by rw [← hplain], Nat.zero_le _, hlt _ (hp 0 hk0), Nat.le_refl _, fun i x hx j u hu => ?_⟩
      have hil : i < l.length := (List.getElem?_eq_some_iff.1 hx).1
      have hcell := (hQ i x hx).2 j u hu
      have hadd : (a.add (i * k)).add j = ⟨a.block, a.off + i * k + j, none⟩ := by
        rw [hplain]
        unfold Addr.add
        by_cases h1 : i * k = 0 <;> by_cases h2 : j = 0 <;> simp [h1, h2, Nat.add_assoc]
      rw [hadd] at hcell
      refine ⟨hcell, ?_⟩
      have hjk : j < k := by have := (List.getElem?_eq_some_iff.1 hu).1; rw [hE] at this; exact this
      have := hnf a.block (a.off + (i * k + j)) (hp _ (by
        calc i * k + j < i * k + k := by omega
          _ = (i + 1) * k := by rw [Nat.add_mul, Nat.one_mul]
          _ ≤ m * k := Nat.mul_le_mul_right _ (by omega)))
      rw [← Nat.add_assoc] at this
      exact this
end

end Go.Proofs.Ytacjdapfbmdddaa

/- Slices inside structs that come in as arguments, opened. No conditions. -/
import Derived.Test.YtianabfehonliaaDoorArg
namespace Go.Proofs.YtianabfehonliaaDoor
open Go.ChangeShapes Go.WideShapes Go.ChangeAt Go.RowKit Go.Joins Go.Deep

section
variable {H : Type} {enc : TypeId × Value → H} {P : Program} {W : World}
theorem open_slc {α : Type} {E : α → List Value} {k : Nat} (Good : α → Prop) {t e : TypeId} {v : Value} {d : DataW H} {p : List MemPlace} (ht : P.underlying t = some (.slice e)) (hC : P.cellsOf e = k) (hk : 0 < k) (hE : ∀ x : α, (E x).length = k)
    (rd : ∀ (n : Nat) (cs' : List Value) (y : DataW H × List MemPlace), cs'.length = k → DataW.trod enc P W 0 (fun _ => true) true n e cs' = some y → ∃ x, E x = cs' ∧ Good x)
    {fuel : Nat} (hf : DataW.trod enc P W 0 (fun _ => true) true fuel t [v] = some (d, p)) (hlt : ∀ x ∈ p, x.block < W.heap.size) (hnf : W.noneFrozen p) :
    ∃ (A : Option Addr) (c : Nat) (l : List α), v = .slice A l.length c ∧ l.length ≤ maxLen ∧ (∀ x ∈ l, Good x) ∧ Sl E k W 0 W.heap.size A l := by
  rcases open_slice ht hf with ⟨h0, _⟩ | ⟨a, len', cap', m, n, D, Pl, hcs, _, hl, hm, hmm, hx, hi⟩
  · obtain rfl : v = .slice none 0 0 := by simpa using h0
    exact ⟨none, 0, [], rfl, Nat.zero_le _, by simp, Sl.nil_⟩
  · obtain rfl : v = .slice (some a) len' cap' := by simpa using hcs
    simp only [if_true] at hmm
    subst hmm
    rw [hC] at hx hi
    simp only [Prod.mk.injEq] at hx
    obtain ⟨l, hll, hQ⟩ := list_of (Q := fun i (x : α) => Good x ∧ ∀ j u, (E x)[j]? = some u → W.cell? ((a.add (i * k)).add j) = some u) len' (fun i hi' => by
      obtain ⟨cs', hc, ht'⟩ := hi i (by omega)
      obtain ⟨_, hcl, hat⟩ := World.cells?_some hc
      obtain ⟨x, hx1, hx2⟩ := rd n cs' _ hcl ht'
      refine ⟨x, hx2, fun j u hj => ?_⟩
      rw [hx1] at hj
      rw [hat j (by rw [← hcl]; exact (List.getElem?_eq_some_iff.1 hj).1)]
      exact hj)
    subst hll
    refine ⟨some a, _, l, rfl, by omega, fun x hx => ?_, fun hn => ?_⟩
    · obtain ⟨i, hi⟩ := List.mem_iff_getElem?.1 hx
      exact (hQ i x hi).1
    · have hp : ∀ q, q < m * k → MemPlace.cell a.block (a.off + q) ∈ p := fun q hq => by
        rw [hx.2]
        exact List.mem_append_left _ (MemPlace.mem_row.2 ⟨q, hq, rfl⟩)
      have hpos : 0 < l.length := by
        cases l with
        | nil => exact absurd rfl hn
        | cons _ _ => simp
      have hk0 : 0 < m * k := Nat.mul_pos (by omega) hk
      -- the first cell is there, so the address is a plain one
      have hplain : a = ⟨a.block, a.off, none⟩ := by
        obtain ⟨cs', hc, _⟩ := hi 0 (by omega)
        obtain ⟨_, hcl, hat⟩ := World.cells?_some hc
        have h1 := hat 0 hk
        rw [List.getElem?_eq_getElem (by omega)] at h1
        have e0 : (a.add (0 * k)).add 0 = a := by simp [Addr.add]
        rw [e0] at h1
        exact plain_addr h1
      refine ⟨a.block, a.off, by rw [← hplain], Nat.zero_le _, hlt _ (hp 0 hk0), Nat.le_refl _, fun i x hx j u hu => ?_⟩
      have hil : i < l.length := (List.getElem?_eq_some_iff.1 hx).1
      have hcell := (hQ i x hx).2 j u hu
      have hadd : (a.add (i * k)).add j = ⟨a.block, a.off + i * k + j, none⟩ := by
        rw [hplain]
        unfold Addr.add
        by_cases h1 : i * k = 0 <;> by_cases h2 : j = 0 <;> simp [h1, h2, Nat.add_assoc]
      rw [hadd] at hcell
      refine ⟨hcell, ?_⟩
      have hjk : j < k := by have := (List.getElem?_eq_some_iff.1 hu).1; rw [hE] at this; exact this
      have := hnf a.block (a.off + (i * k + j)) (hp _ (by
        calc i * k + j < i * k + k := by omega
          _ = (i + 1) * k := by rw [Nat.add_mul, Nat.one_mul]
          _ ≤ m * k := Nat.mul_le_mul_right _ (by omega)))
      rw [← Nat.add_assoc] at this
      exact this
end

end Go.Proofs.YtianabfehonliaaDoor

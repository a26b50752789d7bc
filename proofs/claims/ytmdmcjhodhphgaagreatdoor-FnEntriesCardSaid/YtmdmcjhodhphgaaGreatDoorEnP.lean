/- Entries of logs: what holds between the answers of several calls. Plain Lean: no program walked. No conditions. -/
import Derived.Test.YtmdmcjhodhphgaaGreatDoorWith
import Derived.Test.YtmdmcjhodhphgaaGreatDoorBetw
import Derived.Test.YtmdmcjhodhphgaaGreatDoorSilent
namespace Go.Proofs.YtmdmcjhodhphgaaGreatDoor
open Go.RowKit

theorem betF_mem {f u : Int} : ∀ (l : List Ent) (i : Nat) (n : Int), n ∈ betF f u l i ↔ ∃ (k : Nat) (x : Ent), n = ((i + k : Nat) : Int) ∧ l[k]? = some x ∧ inB x.m f u = true
  | [], i, n => by simp [betF]
  | y :: l, i, n => by
    have ih := betF_mem (f := f) (u := u) l (i + 1) n
    have hs : (∃ (k : Nat) (x : Ent), n = ((i + k : Nat) : Int) ∧ (y :: l)[k]? = some x ∧ inB x.m f u = true) ↔ ((n = (i : Int) ∧ inB y.m f u = true) ∨ ∃ (k : Nat) (x : Ent), n = ((i + 1 + k : Nat) : Int) ∧ l[k]? = some x ∧ inB x.m f u = true) := by
      constructor
      · rintro ⟨k, x, h1, h2, h3⟩
        cases k with
        | zero =>
          have : y = x := by simpa using h2
          subst this
          exact .inl ⟨by simpa using h1, h3⟩
        | succ k => exact .inr ⟨k, x, by rw [h1]; omega, by simpa using h2, h3⟩
      · rintro (⟨h1, h2⟩ | ⟨k, x, h1, h2, h3⟩)
        · exact ⟨0, y, by simpa using h1, rfl, h2⟩
        · exact ⟨k + 1, x, by rw [h1]; omega, by simpa using h2, h3⟩
    rw [hs, ← ih, betF]
    cases inB y.m f u <;> simp
theorem bet_law {l : List Ent} {f u : Int} (g : betOk l f u = true) {k : Nat} {x : Ent} (hx : l[k]? = some x) : (betR l f u).contains (k : Int) = inB x.m f u := by
  rw [betR, if_pos g, Bool.eq_iff_iff, List.contains_iff_mem, betF_mem]
  constructor
  · rintro ⟨j, y, h1, h2, h3⟩
    obtain rfl : k = j := by omega
    rw [hx] at h2
    injection h2 with h2
    subst h2
    exact h3
  · intro h
    exact ⟨k, x, by omega, hx, h⟩
theorem wit_law {l : List Ent} {p : ByteArray} (g : witOk l p = true) : logB l = true ∧ livT l = liveR l ∧ ∀ n ∈ witR l p, (livT l).contains n = true := by
  have g' := g
  unfold witOk at g'
  simp only [Bool.and_eq_true] at g'
  have e : livT l = liveR l := by rw [livT, if_pos g'.1]
  refine ⟨g'.1, e, fun n hn => ?_⟩
  rw [witR, if_pos g] at hn
  rw [e, List.contains_iff_mem]
  exact (List.mem_filter.1 hn).1
theorem best_max (l : List Ent) : ∀ k j, j < k → mi l (j + 1) - mi l j ≤ mi l (bestF l k + 1) - mi l (bestF l k)
  | 0, j, h => by omega
  | k + 1, j, h => by
    rw [bestF]
    by_cases e : j = k
    · subst e
      split <;> omega
    · have := best_max l k j (by omega)
      split <;> omega
theorem silent_law {l : List Ent} (g : silentB l = true) {k : Nat} {x y : Ent} (h0 : l[k]? = some x) (h1 : l[k + 1]? = some y) : y.m - x.m ≤ silentT l ∧ (0 ≤ x.m ∧ x.m ≤ 99999) ∧ (0 ≤ y.m ∧ y.m ≤ 99999) := by
  have h : logB l = true ∧ 2 ≤ l.length := by simpa [silentB] using g
  have hk := (List.getElem?_eq_some_iff.1 h1).1
  obtain ⟨_, e, _⟩ := silent_yes h
  have hb := best_max l (l.length - 1) k (by omega)
  rw [e]
  rw [mi_eq h0, mi_eq h1] at hb
  have m0 := mi_in h.1 (k := k) (by omega)
  have m1 := mi_in h.1 hk
  rw [mi_eq h0] at m0
  rw [mi_eq h1] at m1
  exact ⟨hb, m0, m1⟩
end Go.Proofs.YtmdmcjhodhphgaaGreatDoor

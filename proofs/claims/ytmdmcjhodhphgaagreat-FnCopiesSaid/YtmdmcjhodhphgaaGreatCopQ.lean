/- Histories made of two logs: what holds of them. Plain Lean: no program walked. No conditions. -/
import Derived.Test.YtmdmcjhodhphgaaGreatHof
import Derived.Test.YtmdmcjhodhphgaaGreatCopP
namespace Go.Proofs.YtmdmcjhodhphgaaGreat
open Go.RowKit

theorem mrg_parts : ∀ (n : Nat) (a b : List Ent), a.length + b.length ≤ n → (∀ x ∈ a, x.r = 1) → (∀ x ∈ b, x.r = 2) → of1 (mrg a b) = a ∧ not1 (mrg a b) = b
  | n, [], b, _, _, hb => by
    rw [mrg_nil1]
    refine ⟨List.filter_eq_nil_iff.2 fun x hx => by simp [hb x hx], List.filter_eq_self.2 fun x hx => by simp [hb x hx]⟩
  | n, x :: a, [], _, ha, _ => by
    rw [mrg_nil2]
    exact ⟨List.filter_eq_self.2 fun x hx => by simp [ha x hx], List.filter_eq_nil_iff.2 fun x hx => by simp [ha x hx]⟩
  | 0, x :: a, y :: b, h, _, _ => by simp at h
  | n + 1, x :: a, y :: b, h, ha, hb => by
    simp only [List.length_cons] at h
    have hx := ha x (List.mem_cons_self ..)
    have hy := hb y (List.mem_cons_self ..)
    rw [mrg]
    split
    · obtain ⟨h1, h2⟩ := mrg_parts n a (y :: b) (by simp only [List.length_cons]; omega) (fun z hz => ha z (List.mem_cons_of_mem _ hz)) hb
      unfold of1 not1 at *
      rw [List.filter_cons, List.filter_cons, if_pos (by simp [hx]), if_neg (by simp [hx]), h1, h2]
      exact ⟨rfl, rfl⟩
    · obtain ⟨h1, h2⟩ := mrg_parts n (x :: a) b (by simp only [List.length_cons]; omega) ha (fun z hz => hb z (List.mem_cons_of_mem _ hz))
      unfold of1 not1 at *
      rw [List.filter_cons, List.filter_cons, if_neg (by simp [hy]), if_pos (by simp [hy]), h1, h2]
      exact ⟨rfl, rfl⟩
theorem hof_law {a b : List Ent} (g : hofOk a b = true) : histB (hofR a b) = true ∧ (hofR a b).length = a.length + b.length := by
  rw [hofR, if_pos g]
  unfold hofOk at g
  simp only [Bool.and_eq_true] at g
  obtain ⟨⟨g1, g2⟩, g3⟩ := g
  have g1' := g1
  unfold twoB at g1'
  simp only [Bool.and_eq_true] at g1'
  obtain ⟨e1, e2⟩ := mrg_parts _ a b (Nat.le_refl _) (fun x hx => ofB_room g1'.1 g2 hx) (fun x hx => ofB_room g1'.2 g3 hx)
  refine ⟨?_, mrg_len _ a b (Nat.le_refl _)⟩
  unfold histB
  rw [e1, e2, g1, g3, begF_self]
  rfl
end Go.Proofs.YtmdmcjhodhphgaaGreat

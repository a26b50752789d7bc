/- Valid channels are short; what steps on them return is short, too. Plain Lean, no program. No conditions. -/
import Derived.Test.YtacjdapfbmdddaaChanG
namespace Go.Proofs.Ytacjdapfbmdddaa
open Go.RowKit

theorem nod_len : ∀ (l all : List Msg), (∀ i x, l[i]? = some x → x ∈ all ∧ x ∉ l.take i) → l.length ≤ all.length
  | [], _, _ => Nat.zero_le _
  | x :: l, all, h => by
    obtain ⟨a, b, rfl⟩ := List.append_of_mem (h 0 x rfl).1
    have := nod_len l (a ++ b) (fun i y hy => by
      obtain ⟨h1, h2⟩ := h (i + 1) y (by simpa using hy)
      rw [List.take_succ_cons, List.mem_cons, not_or] at h2
      refine ⟨?_, h2.2⟩
      simp only [List.mem_append, List.mem_cons] at h1 ⊢
      rcases h1 with h1 | h1 | h1
      · exact .inl h1
      · exact absurd h1 h2.1
      · exact .inr h1)
    simp only [List.length_append, List.length_cons] at this ⊢
    omega
theorem someB_len {l all : List Msg} (h : someB l all = true) : l.length ≤ all.length := nod_len l all fun i x hx => by
  have := range_all h (List.getElem?_eq_some_iff.1 hx).1
  simp only [someAt, hx, Bool.and_eq_true, Bool.not_eq_true'] at this
  refine ⟨memM_iff.1 this.1, fun hm => ?_⟩
  rw [memM_iff.2 hm] at this
  cases this.2
theorem chan_len {s r h : List Msg} (g : chanB s r h = true) : s.length ≤ 30 ∧ r.length ≤ 30 ∧ h.length ≤ 30 := by
  simp only [chanB, Bool.and_eq_true, decide_eq_true_eq] at g
  have h1 := someB_len g.1.2
  have h2 := someB_len g.2
  omega
theorem delT_len {s r h : List Msg} {i : Int} (_hs : s.length ≤ 1048576) (_hr : r.length ≤ 1048576) (_hh : h.length ≤ 1048576) : (delT s r h i).1.1.length ≤ 1048576 ∧ (delT s r h i).1.2.1.length ≤ 1048576 ∧ (delT s r h i).1.2.2.length ≤ 1048576 := by
  unfold delT
  split
  · rename_i g
    have g : chanB s r h = true := by simp only [okI, Bool.and_eq_true] at g; exact g.1
    obtain ⟨h1, h2, h3⟩ := chan_len g
    split
    · rename_i m _
      have := addM_len r m
      refine ⟨?_, ?_, ?_⟩ <;> dsimp only <;> omega
    · simp [chNo]
  · simp [chNo]
theorem conT_len {s r h : List Msg} {i : Int} (_hs : s.length ≤ 1048576) (_hr : r.length ≤ 1048576) (_hh : h.length ≤ 1048576) : (conT s r h i).1.1.length ≤ 1048576 ∧ (conT s r h i).1.2.1.length ≤ 1048576 ∧ (conT s r h i).1.2.2.length ≤ 1048576 := by
  unfold conT
  split
  · rename_i g
    have g : chanB s r h = true := by simp only [okI, Bool.and_eq_true] at g; exact g.1
    obtain ⟨h1, h2, h3⟩ := chan_len g
    split
    · rename_i m _
      have := addM_len h m
      refine ⟨?_, ?_, ?_⟩ <;> dsimp only <;> omega
    · simp [chNo]
  · simp [chNo]
end Go.Proofs.Ytacjdapfbmdddaa

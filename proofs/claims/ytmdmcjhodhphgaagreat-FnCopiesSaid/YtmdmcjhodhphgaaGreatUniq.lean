/- Sorted histories, in plain words: merging two logs is the one sorted list of their entries. No program. -/
import Derived.Test.YtmdmcjhodhphgaaGreatHist
namespace Go.Proofs.YtmdmcjhodhphgaaGreat
open Go.RowKit

theorem mrg_perm : ∀ (n : Nat) (a b : List Ent), a.length + b.length ≤ n → (mrg a b).Perm (a ++ b)
  | 0, a, b, h => by
    have ha : a = [] := List.eq_nil_of_length_eq_zero (by omega)
    have hb : b = [] := List.eq_nil_of_length_eq_zero (by omega)
    subst ha hb; simp [mrg_nil1]
  | n + 1, [], b, _ => by rw [mrg_nil1]; exact List.Perm.refl _
  | n + 1, x :: a, [], _ => by rw [mrg_nil2, List.append_nil]
  | n + 1, x :: a, y :: b, h => by
    simp only [List.length_cons] at h
    rw [mrg]
    split
    · exact (mrg_perm n a (y :: b) (by simp only [List.length_cons]; omega)).cons x
    · exact ((mrg_perm n (x :: a) b (by simp only [List.length_cons]; omega)).cons y).trans List.perm_middle.symm
theorem srt_unique : ∀ {l k : List Ent}, l.Perm k → srt l → srt k → (∀ x ∈ l, ∀ y ∈ l, befB x y = false → befB y x = false → x = y) → l = k
  | [], k, hp, _, _, _ => (List.nil_perm.1 hp).symm
  | x :: l, [], hp, _, _, _ => absurd (List.perm_nil.1 hp) (by simp)
  | x :: l, y :: k, hp, hl, hk, hu => by
    have hl' := List.pairwise_cons.1 hl
    have hk' := List.pairwise_cons.1 hk
    have hy : y ∈ x :: l := hp.symm.subset (List.mem_cons_self ..)
    have hx : x ∈ y :: k := hp.subset (List.mem_cons_self ..)
    have hxy : x = y := by
      refine hu x (List.mem_cons_self ..) y hy ?_ ?_
      · rcases List.mem_cons.1 hx with rfl | h
        · rw [befB_no]; omega
        · exact hk'.1 x h
      · rcases List.mem_cons.1 hy with rfl | h
        · rw [befB_no]; omega
        · exact hl'.1 y h
    subst hxy
    rw [srt_unique (List.Perm.cons_inv hp) hl'.2 hk'.2 fun a ha b hb => hu a (List.mem_cons_of_mem _ ha) b (List.mem_cons_of_mem _ hb)]
theorem logB_num {l : List Ent} (h : logB l = true) {x y : Ent} (hx : x ∈ l) (hy : y ∈ l) (hn : x.n = y.n) : x = y := by
  obtain ⟨i, hi⟩ := List.mem_iff_getElem?.1 hx
  obtain ⟨j, hj⟩ := List.mem_iff_getElem?.1 hy
  have hil := (List.getElem?_eq_some_iff.1 hi).1
  have hjl := (List.getElem?_eq_some_iff.1 hj).1
  obtain ⟨f, hf, _⟩ := get_lt (l := l) (i := 0) (by omega)
  obtain ⟨z, hz, _⟩ := get_lt (l := l) (i := i - 1) (by omega)
  obtain ⟨z', hz', _⟩ := get_lt (l := l) (i := j - 1) (by omega)
  have h1 := logB_ok h hil
  have h2 := logB_ok h hjl
  rw [okAt_eq hi hf hz] at h1
  rw [okAt_eq hj hf hz'] at h2
  simp only [Bool.and_eq_true, decide_eq_true_eq] at h1 h2
  have e1 := h1.1.2; have e2 := h2.1.2
  have : i = j := by omega
  subst this
  exact Option.some.inj (hi.symm.trans hj)
theorem ofB_room {l : List Ent} {r : Int} (h : logB l = true) (ho : ofB l r = true) {x : Ent} (hx : x ∈ l) : x.r = r := by
  cases l with
  | nil => cases hx
  | cons y l =>
    rw [logB_room h hx (y := y) rfl]
    simpa [ofB] using ho
theorem two_unique {a b : List Ent} (ha : logB a = true) (hb : logB b = true) (h1 : ofB a 1 = true) (h2 : ofB b 2 = true) : ∀ x ∈ a ++ b, ∀ y ∈ a ++ b, befB x y = false → befB y x = false → x = y := by
  intro x hx y hy h3 h4
  rw [befB_no] at h3 h4
  rw [List.mem_append] at hx hy
  rcases hx with hx | hx <;> rcases hy with hy | hy
  · exact logB_num ha hx hy (by omega)
  · have e1 := ofB_room ha h1 hx
    have e2 := ofB_room hb h2 hy
    omega
  · have e1 := ofB_room hb h2 hx
    have e2 := ofB_room ha h1 hy
    omega
  · exact logB_num hb hx hy (by omega)
theorem sorted_is_mrg {a b l : List Ent} (ha : logB a = true) (hb : logB b = true) (h1 : ofB a 1 = true) (h2 : ofB b 2 = true) (hp : l.Perm (a ++ b)) (hs : srt l) : l = mrg a b := by
  have hm := mrg_perm _ a b (Nat.le_refl _)
  exact (srt_unique (hm.trans hp.symm) (mrg_srt _ _ _ (Nat.le_refl _) (logB_srt ha) (logB_srt hb)) hs fun x hx y hy => two_unique ha hb h1 h2 x (hm.subset hx) y (hm.subset hy)).symm
end Go.Proofs.YtmdmcjhodhphgaaGreat

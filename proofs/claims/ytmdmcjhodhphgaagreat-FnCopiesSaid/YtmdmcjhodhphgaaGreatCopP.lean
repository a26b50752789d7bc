/- Copies of logs: what holds between the answers of several calls. Plain Lean: no program walked. No conditions. -/
import Derived.Test.YtmdmcjhodhphgaaGreatCopy
import Derived.Test.YtmdmcjhodhphgaaGreatUniq
import Derived.Test.YtmdmcjhodhphgaaGreatPlace
namespace Go.Proofs.YtmdmcjhodhphgaaGreat
open Go.RowKit

theorem conf_beg : ∀ (a b : List Ent) (i : Nat), (confF a b i).2 = !(begF b a || begF a b)
  | [], b, i => by cases b <;> simp [confF, begF]
  | x :: a, [], i => by simp [confF, begF]
  | x :: a, y :: b, i => by
    rw [confF, begF, begF, eqE_comm y x]
    cases h : eqE x y with
    | false => simp
    | true => simp only [if_true, Bool.true_and]; exact conf_beg a b (i + 1)
theorem conf_at : ∀ (a b : List Ent) (i : Nat), (confF a b i).2 = true → ∃ (k : Nat) (x y : Ent), (confF a b i).1 = ((i + k : Nat) : Int) ∧ a[k]? = some x ∧ b[k]? = some y ∧ eqE x y = false ∧ a.take k = b.take k
  | [], b, i, h => by cases b <;> simp [confF] at h
  | x :: a, [], i, h => by simp [confF] at h
  | x :: a, y :: b, i, h => by
    rw [confF] at h ⊢
    cases e : eqE x y with
    | false => exact ⟨0, x, y, by simp, rfl, rfl, e, rfl⟩
    | true =>
      rw [e, if_pos rfl] at h
      rw [if_pos rfl]
      obtain ⟨k, u, v, h1, h2, h3, h4, h5⟩ := conf_at a b (i + 1) h
      exact ⟨k + 1, u, v, by rw [h1]; omega, by simpa using h2, by simpa using h3, h4, by rw [List.take_succ_cons, List.take_succ_cons, h5, eqE_iff.1 e]⟩
theorem join_conf {a b : List Ent} (g : twoB a b = true) : confB a b = !joinOk a b := by
  unfold confB joinOk mjOk
  rw [if_pos g, g, conf_beg, Bool.true_and]
theorem join_not_conf {a b : List Ent} (g : joinOk a b = true) : confB a b = false := by
  have h : twoB a b = true := by
    unfold joinOk at g
    exact (Bool.and_eq_true _ _ ▸ g).1
  rw [join_conf h, g]; rfl
theorem join_law {a b : List Ent} (g : joinOk a b = true) : (twoB a (joinR a b) = true ∧ begF a (joinR a b) = true) ∧ (twoB b (joinR a b) = true ∧ begF b (joinR a b) = true) ∧ ((joinR a b).length = a.length ∨ (joinR a b).length = b.length) := by
  unfold joinOk mjOk at g
  simp only [Bool.and_eq_true, Bool.or_eq_true] at g
  have h := g.1
  have h' := h
  unfold twoB at h'
  simp only [Bool.and_eq_true] at h'
  unfold joinR mjR
  rw [if_pos h]
  unfold twoB
  by_cases e : begF b a = true
  · rw [if_pos e, h'.1, h'.2]
    exact ⟨⟨rfl, begF_self a⟩, ⟨rfl, e⟩, .inl rfl⟩
  · have e2 : begF a b = true := g.2.resolve_left e
    rw [if_neg e, if_pos e2, h'.1, h'.2]
    exact ⟨⟨rfl, e2⟩, ⟨rfl, begF_self b⟩, .inr rfl⟩
theorem conf_law {a b : List Ent} (g : confB a b = true) : ∃ (k : Nat) (x y : Ent), confI a b = (k : Int) ∧ a[k]? = some x ∧ b[k]? = some y ∧ eqE x y = false ∧ (cutOk a k = true ∧ cutOk b k = true) ∧ cutR a k = cutR b k := by
  unfold confB at g
  split at g
  · rename_i h
    obtain ⟨k, x, y, h1, h2, h3, h4, h5⟩ := conf_at a b 0 g
    have ha := (List.getElem?_eq_some_iff.1 h2).1
    have hb := (List.getElem?_eq_some_iff.1 h3).1
    have h' := h
    unfold twoB at h'
    simp only [Bool.and_eq_true] at h'
    have c1 : cutOk a k = true := by
      unfold cutOk inB
      rw [h'.1]
      simp; omega
    have c2 : cutOk b k = true := by
      unfold cutOk inB
      rw [h'.2]
      simp; omega
    refine ⟨k, x, y, ?_, h2, h3, h4, ⟨c1, c2⟩, ?_⟩
    · rw [confI, if_pos h, h1, Nat.zero_add]
    · rw [cutR, cutR, if_pos c1, if_pos c2]
      simpa using h5
  · cases g
theorem actF_in (m : Int) : ∀ (l : List Ent) (r : Int), actF m l r = r ∨ ∃ x ∈ l, actF m l r = x.r
  | [], r => .inl rfl
  | x :: l, r => by
    rw [actF]
    rcases actF_in m l (if x.m ≤ m then x.r else r) with h | ⟨y, hy, h⟩
    · rw [h]
      split
      · exact .inr ⟨x, List.mem_cons_self .., rfl⟩
      · exact .inl rfl
    · exact .inr ⟨y, List.mem_cons_of_mem _ hy, h⟩
theorem hist_room {h : List Ent} (g : histB h = true) {x : Ent} (hx : x ∈ h) : x.r = 1 ∨ x.r = 2 := by
  unfold histB twoB at g
  simp only [Bool.and_eq_true] at g
  by_cases e : x.r = 1
  · exact .inl e
  · exact .inr (ofB_room g.1.1.2 g.1.2 (List.mem_filter.2 ⟨hx, by simp [e]⟩))
theorem act_law {h : List Ent} {m : Int} (g : actB h m = true) : actI h m = 1 ∨ actI h m = 2 := by
  unfold actB at g
  simp only [Bool.and_eq_true, decide_eq_true_eq] at g
  rw [actI, if_pos g.1]
  have gh := g.1
  unfold actOk at gh
  simp only [Bool.and_eq_true] at gh
  rcases actF_in m h 0 with e | ⟨x, hx, e⟩
  · have := g.2
    omega
  · rw [e]
    exact hist_room gh.1 hx
end Go.Proofs.YtmdmcjhodhphgaaGreat

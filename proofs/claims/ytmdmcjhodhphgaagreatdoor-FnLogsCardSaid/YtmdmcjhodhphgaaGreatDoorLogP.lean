/- Logs: what holds between the answers of several calls. Plain Lean: no program walked. No conditions. -/
import Derived.Test.YtmdmcjhodhphgaaGreatDoorCancel
import Derived.Test.YtmdmcjhodhphgaaGreatDoorPl
namespace Go.Proofs.YtmdmcjhodhphgaaGreatDoor
open Go.RowKit

theorem app_law {l : List Ent} {r m : Int} {t : ByteArray} (g : appOk l r m t = true) : appR l r m t = appL l r m t ∧ logB l = true ∧ logB (appL l r m t) = true ∧ cutOk (appL l r m t) l.length = true ∧ cutR (appL l r m t) l.length = l := by
  unfold appOk at g
  simp only [Bool.and_eq_true] at g
  have c1 : cutOk (appL l r m t) l.length = true := by
    unfold cutOk inB
    rw [g.2]
    simp [appL]
    omega
  refine ⟨?_, g.1, g.2, c1, ?_⟩
  · rw [appR, if_pos g.1, lgAppR, if_pos g.2]
  · rw [cutR, if_pos c1]
    simp [appL]
theorem idxF_count : ∀ (l : List Bool) (i : Nat), (idxF l i).length = l.count true
  | [], _ => rfl
  | b :: l, i => by
    have e : idxF (b :: l) i = if b = true then (i : Int) :: idxF l (i + 1) else idxF l (i + 1) := rfl
    rw [e, List.count_cons]
    cases b <;> simp [idxF_count l (i + 1)]
theorem count_set : ∀ (l : List Bool) (k : Nat), l[k]? = some true → (l.set k false).count true + 1 = l.count true
  | [], k, h => by simp at h
  | b :: l, 0, h => by
    have : b = true := by simpa using h
    subst this
    simp
  | b :: l, k + 1, h => by
    have := count_set l k (by simpa using h)
    rw [List.set_cons_succ, List.count_cons, List.count_cons]
    omega
theorem can_law {l : List Ent} {m n : Int} (g : canOk l m n = true) : logB l = true ∧ logB (canR l m n) = true ∧ livT (canR l m n) = liveR (canR l m n) ∧ livT l = liveR l ∧ (liveR (canR l m n)).length + 1 = (liveR l).length ∧ (liveR (canR l m n)).contains (n - 1) = false ∧ (liveR l).contains (n - 1) = true ∧ canOk (canR l m n) m n = false ∧ (1 ≤ n ∧ n ≤ 20) := by
  unfold canOk at g
  simp only [Bool.and_eq_true] at g
  obtain ⟨g1, g2⟩ := g
  have eR : canR l m n = appL l (hdR l) m (canT n.toNat) := by rw [canR, if_pos g1, lgAppR, if_pos g2]
  have g1' := g1
  unfold canPre inB at g1'
  simp only [Bool.and_eq_true, beq_iff_eq, decide_eq_true_eq] at g1'
  obtain ⟨⟨h1, h2⟩, h3⟩ := g1'
  have hn : n - 1 = (((n - 1).toNat : Nat) : Int) := by omega
  have hn' : n.toNat = (n - 1).toNat + 1 := by omega
  have eL : liveF (canR l m n) = (liveF l).set (n - 1).toNat false ++ [false] := by
    rw [eR, appL, liveF_snoc]
    exact liveStep_hit h3 (by rw [hn'])
  have hlt : (n - 1).toNat < (liveF l).length := (List.getElem?_eq_some_iff.1 h3).1
  have h4 : (liveF (canR l m n))[(n - 1).toNat]? = some false := by
    rw [eL, List.getElem?_append_left (by simpa using hlt), List.getElem?_set_self hlt]
  refine ⟨h1, eR ▸ g2, by rw [livT, if_pos (eR ▸ g2)], by rw [livT, if_pos h1], ?_, ?_, ?_, ?_, ?_⟩
  · rw [liveR, liveR, idxF_count, idxF_count, eL, List.count_append]
    have := count_set _ _ h3
    have e0 : List.count true [false] = 0 := rfl
    omega
  · rw [hn, live_mem, h4]; rfl
  · rw [hn, live_mem, h3]; rfl
  · unfold canOk canPre
    rw [h4]
    simp
  · have := logB_len h1
    omega
theorem text_law {l : List Ent} (g : logB l = true) : logTT l = allT l ∧ LogOf (allT l) l true ∧ (allT l).size ≤ 1048576 := by
  obtain ⟨h1, h2⟩ := logB_ents g
  refine ⟨by rw [logTT, if_pos g], ⟨fun _ => ⟨g, rfl⟩, fun h => (by cases h), fun _ _ _ => rfl⟩, ?_⟩
  have := allT_size h1
  omega
end Go.Proofs.YtmdmcjhodhphgaaGreatDoor

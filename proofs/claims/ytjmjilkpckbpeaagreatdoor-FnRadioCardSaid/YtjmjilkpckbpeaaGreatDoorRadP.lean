/- Radio: delivering and confirming twice, what is unconfirmed. Plain Lean: no program walked. No conditions. -/
import Derived.Test.YtjmjilkpckbpeaaGreatDoorChcP
import Derived.Test.YtjmjilkpckbpeaaGreatDoorLD
namespace Go.Proofs.YtjmjilkpckbpeaaGreatDoor
open Go.RowKit

theorem addM_same {l : List Msg} {m : Msg} : addM (addM l m) m = addM l m := by
  have h : m ∈ addM l m := mem_addM.2 (.inr rfl)
  generalize addM l m = k at h ⊢
  unfold addM
  rw [memM_iff.2 h]
  rfl
theorem del_law {s r h : List Msg} {i : Int} (g : (delT s r h i).2 = true) : ∃ (k : Nat) (m : Msg), i = k ∧ s[k]? = some m ∧ delT s r h i = ((s, addM r m, h), true) ∧ delT s (addM r m) h i = ((s, addM r m, h), true) ∧ chanB s (addM r m) h = true ∧ m ∈ addM r m := by
  unfold delT at g
  split at g
  · rename_i h0
    have h1 := h0
    unfold okI at h1
    simp only [Bool.and_eq_true] at h1
    obtain ⟨k, rfl, hk⟩ := nat_of h1.2
    obtain ⟨m, hm, hmm⟩ := get_lt hk
    have hc := chan_deliver h1.1 hmm
    have h2 : okI s (addM r m) h s.length k = true := by unfold okI; rw [hc, h1.2]; rfl
    exact ⟨k, m, rfl, hm, (delT_yes h0 hm).symm, by rw [← delT_yes h2 hm, addM_same], hc, mem_addM.2 (.inr rfl)⟩
  · cases g
theorem con_law {s r h : List Msg} {i : Int} (g : (conT s r h i).2 = true) : ∃ (k : Nat) (m : Msg), i = k ∧ r[k]? = some m ∧ conT s r h i = ((s, r, addM h m), true) ∧ conT s r (addM h m) i = ((s, r, addM h m), true) ∧ chanB s r h = true ∧ chanB s r (addM h m) = true ∧ m ∈ addM h m := by
  unfold conT at g
  split at g
  · rename_i h0
    have h1 := h0
    unfold okI at h1
    simp only [Bool.and_eq_true] at h1
    obtain ⟨k, rfl, hk⟩ := nat_of h1.2
    obtain ⟨m, hm, hmm⟩ := get_lt hk
    have hc := chan_confirm h1.1 hmm
    have h2 : okI s r (addM h m) r.length k = true := by unfold okI; rw [hc, h1.2]; rfl
    exact ⟨k, m, rfl, hm, (conT_yes h0 hm).symm, by rw [← conT_yes h2 hm, addM_same], h1.1, hc, mem_addM.2 (.inr rfl)⟩
  · cases g
/-- The messages that were not heard. -/
def uncF (s h : List Msg) : List Msg := s.filter fun m => !memM h m
theorem uncF_mem {s h : List Msg} {m : Msg} : m ∈ uncF s h ↔ m ∈ s ∧ m ∉ h := by
  unfold uncF
  rw [List.mem_filter, Bool.not_eq_true', ← Bool.not_eq_true, memM_iff]
theorem uncF_len (s h : List Msg) : (uncF s h).length ≤ s.length := List.length_filter_le _ _
theorem uncF_sub {s h k : List Msg} (hs : ∀ x ∈ h, x ∈ k) : (uncF s k).length ≤ (uncF s h).length := by
  have e : uncF s k = (uncF s h).filter fun m => !memM k m := by
    unfold uncF
    rw [List.filter_filter]
    refine List.filter_congr fun x _ => ?_
    cases ek : memM k x with
    | true => rfl
    | false =>
      cases eh : memM h x with
      | false => rfl
      | true => exact absurd (memM_iff.2 (hs x (memM_iff.1 eh))) (by rw [ek]; decide)
  rw [e]
  exact List.length_filter_le _ _
/-- In messages sent no one stands twice. -/
theorem sent_nod {s : List Msg} (g : sentB s = true) {i : Nat} {x : Msg} (hx : s[i]? = some x) : x ∉ s.take i := by
  have hi := (List.getElem?_eq_some_iff.1 hx).1
  have h1 := range_all g hi
  unfold sentAt at h1
  rw [hx] at h1
  simp only [Bool.and_eq_true, decide_eq_true_eq] at h1
  intro hm
  obtain ⟨j, hj⟩ := List.getElem?_of_mem hm
  have hji : j < i := by
    have := (List.getElem?_eq_some_iff.1 hj).1
    rw [List.length_take] at this
    omega
  rw [List.getElem?_take_of_lt hji] at hj
  have h2 := range_all g (by omega : j < s.length)
  unfold sentAt at h2
  rw [hj] at h2
  simp only [Bool.and_eq_true, decide_eq_true_eq] at h2
  have h3 : cntM (s.take (j + 1)) x.f = cntM (s.take j) x.f + 1 := by
    have := cntM_step hj x.f
    rw [if_pos rfl] at this
    omega
  have h4 : cntM (s.take (j + 1)) x.f ≤ cntM (s.take i) x.f := by
    have e : s.take i = s.take (j + 1) ++ (s.take i).drop (j + 1) := by
      conv => lhs; rw [← List.take_append_drop (j + 1) (s.take i), List.take_take, Nat.min_eq_left (by omega)]
    rw [e, cntM_append]
    omega
  omega
theorem filter_two {α : Type} (p : α → Bool) : ∀ l : List α, (l.filter p).length + (l.filter fun x => !p x).length = l.length
  | [] => rfl
  | x :: l => by
    have := filter_two p l
    rw [List.filter_cons, List.filter_cons]
    cases p x <;> simp <;> omega
theorem nod_pair {k : List Msg} (h : k.Pairwise (fun x y => x ≠ y)) {i : Nat} {x : Msg} (hx : k[i]? = some x) : x ∉ k.take i := by
  intro hm
  obtain ⟨j, hj⟩ := List.getElem?_of_mem hm
  have hji : j < i := by
    have := (List.getElem?_eq_some_iff.1 hj).1
    rw [List.length_take] at this
    omega
  rw [List.getElem?_take_of_lt hji] at hj
  obtain ⟨hi', ei⟩ := List.getElem?_eq_some_iff.1 hx
  obtain ⟨hj', ej⟩ := List.getElem?_eq_some_iff.1 hj
  exact List.pairwise_iff_getElem.1 h j i hj' hi' hji (ej.trans ei.symm)
theorem sent_pair {s : List Msg} (g : sentB s = true) : s.Pairwise (fun x y => x ≠ y) := by
  refine List.pairwise_iff_getElem.2 fun i j hi hj hij e => ?_
  refine sent_nod g (i := j) (x := s[j]) (List.getElem?_eq_getElem hj) ?_
  rw [← e]
  exact List.mem_of_getElem? (by rw [List.getElem?_take_of_lt hij, List.getElem?_eq_getElem hi])
theorem some_nod {l all : List Msg} (h : someB l all = true) {i : Nat} {x : Msg} (hx : l[i]? = some x) : x ∉ l.take i := by
  have := range_all h (List.getElem?_eq_some_iff.1 hx).1
  unfold someAt at this
  rw [hx] at this
  simp only [Bool.and_eq_true, Bool.not_eq_true'] at this
  intro hm
  rw [memM_iff.2 hm] at this
  exact absurd this.2 (by decide)
theorem unc_count {s r h : List Msg} (g : chanB s r h = true) : (uncF s h).length + h.length = s.length := by
  obtain ⟨g1, _, g3, g4⟩ := chan_parts g
  have hsub : ∀ x ∈ h, x ∈ s := fun x hx => someB_sub g3 x (someB_sub g4 x hx)
  have e := filter_two (memM h) s
  have a := nod_len h (s.filter (memM h)) fun i x hx => ⟨List.mem_filter.2 ⟨hsub x (List.mem_of_getElem? hx), memM_iff.2 (List.mem_of_getElem? hx)⟩, some_nod g4 hx⟩
  have b := nod_len (s.filter (memM h)) h fun i x hx => ⟨memM_iff.1 (List.mem_filter.1 (List.mem_of_getElem? hx)).2, nod_pair ((sent_pair g1).filter _) hx⟩
  unfold uncF
  omega
end Go.Proofs.YtjmjilkpckbpeaaGreatDoor

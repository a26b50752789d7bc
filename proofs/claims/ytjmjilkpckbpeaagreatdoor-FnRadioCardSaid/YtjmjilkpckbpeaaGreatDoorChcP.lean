/- Channels: the last message of a name, plans forwards and backwards. Plain Lean: no program walked. No conditions. -/
import Derived.Test.YtjmjilkpckbpeaaGreatDoorChnP
import Derived.Test.YtjmjilkpckbpeaaGreatDoorLD
namespace Go.Proofs.YtjmjilkpckbpeaaGreatDoor
open Go.RowKit

def msg0 : Msg := ⟨⟨#[]⟩, 0, ⟨#[]⟩⟩
def lastStep (f : ByteArray) (b m : Msg) : Msg := if (decide (m.f.toList = f.toList) && decide (b.n < m.n)) = true then m else b
def lastF (r : List Msg) (f : ByteArray) : Msg := r.foldl (lastStep f) msg0
theorem lastF_snoc (r : List Msg) (m : Msg) (f : ByteArray) : lastF (r ++ [m]) f = lastStep f (lastF r f) m := by simp [lastF, List.foldl_append]
theorem last_spec (f : ByteArray) (r : List Msg) : (lastF r f = msg0 ∨ (0 < (lastF r f).n ∧ (lastF r f).f = f ∧ lastF r f ∈ r)) ∧ ∀ m ∈ r, m.f = f → m.n ≤ (lastF r f).n := by
  refine snoc_ind (p := fun r => (lastF r f = msg0 ∨ (0 < (lastF r f).n ∧ (lastF r f).f = f ∧ lastF r f ∈ r)) ∧ ∀ m ∈ r, m.f = f → m.n ≤ (lastF r f).n) ⟨.inl rfl, fun m h => by cases h⟩ ?_ r
  intro l x ⟨h1, h2⟩
  have hn : 0 ≤ (lastF l f).n := by
    rcases h1 with h | h
    · rw [h]; exact Int.le_refl _
    · omega
  rw [lastF_snoc]
  unfold lastStep
  split
  · rename_i g
    simp only [Bool.and_eq_true, decide_eq_true_eq] at g
    refine ⟨.inr ⟨by omega, toList_inj g.1, List.mem_append_right _ (List.mem_singleton.2 rfl)⟩, fun m hm hf => ?_⟩
    rcases List.mem_append.1 hm with h | h
    · have := h2 m h hf; omega
    · rw [List.mem_singleton.1 h]; exact Int.le_refl _
  · rename_i g
    simp only [Bool.and_eq_true, decide_eq_true_eq, not_and] at g
    refine ⟨h1.imp id fun h => ⟨h.1, h.2.1, List.mem_append_left _ h.2.2⟩, fun m hm hf => ?_⟩
    rcases List.mem_append.1 hm with h | h
    · exact h2 m h hf
    · obtain rfl := List.mem_singleton.1 h
      have := g (by rw [hf])
      omega
def lasT (s r h : List Msg) (f : ByteArray) : Msg × Bool := if (chanB s r h && nameB f) = true then (lastF r f, decide (0 < (lastF r f).n)) else (msg0, false)
theorem lasT_no {s r h : List Msg} {f : ByteArray} (g : (chanB s r h && nameB f) = false) : lasT s r h f = (msg0, false) := by rw [lasT, g]; rfl
theorem lasT_yes {s r h : List Msg} {f : ByteArray} (g : (chanB s r h && nameB f) = true) : lasT s r h f = (lastF r f, decide (0 < (lastF r f).n)) := by rw [lasT, if_pos g]
theorem last_zero {r : List Msg} {f : ByteArray} (h : ¬ 0 < (lastF r f).n) : lastF r f = msg0 := (last_spec f r).1.resolve_right fun k => h k.1
def nxtT (s r h : List Msg) (f : ByteArray) : Int × Bool := if (chanB s r h && nameB f) = true then (((ordF r f).length : Int) + 1, true) else (0, false)
theorem nxtT_no {s r h : List Msg} {f : ByteArray} (g : (chanB s r h && nameB f) = false) : nxtT s r h f = (0, false) := by rw [nxtT, g]; rfl
theorem nxtT_yes {s r h : List Msg} {f : ByteArray} (g : (chanB s r h && nameB f) = true) : nxtT s r h f = (((ordF r f).length : Int) + 1, true) := by rw [nxtT, if_pos g]
/-- Where all numbers below one were received, the last one is no less. -/
theorem ord_last {r : List Msg} {f : ByteArray} (h : 0 < (ordF r f).length) : 0 < (lastF r f).n ∧ ((ordF r f).length : Int) ≤ (lastF r f).n := by
  obtain ⟨m, h1, _⟩ := ordL_at (r := r) (f := f) (k := 1000) (n := 1) (i := (ordF r f).length - 1) (by show _ < (ordF r f).length; omega)
  have hk := keyP_iff.1 (List.find?_some h1)
  have := (last_spec f r).2 m (List.mem_of_find?_eq_some h1) hk.1
  have := hk.2
  omega
theorem last_name {r : List Msg} {f : ByteArray} (h : 0 < (lastF r f).n) : (lastF r f).f = f := by
  rcases (last_spec f r).1 with e | e
  · rw [e] at h; exact absurd h (by decide)
  · exact e.2.1
theorem rdN_ok {s h : List Msg} {p : ByteArray} : ∀ (n k : Nat) (r : List Msg), k + n ≤ p.size → (∀ i, k ≤ i → i < k + n → ∀ h : i < p.size, 97 ≤ p[i].toNat ∧ p[i].toNat ≤ 122) → ∃ q, rdN s p n k r h = some (q, h) ∧ (chanB s r h = true → chanB s q h = true) ∧ ∀ x, x ∈ q ↔ x ∈ r ∨ ∃ (i : Nat) (h : i < p.size), k ≤ i ∧ i < k + n ∧ s[p[i].toNat - 97]? = some x
  | 0, k, r, _, _ => ⟨r, rfl, fun g => g, fun x => ⟨.inl, fun h => h.elim id fun ⟨i, _, h1, h2, _⟩ => by omega⟩⟩
  | n + 1, k, r, hn, hl => by
    have hk : k < p.size := by omega
    have hstep : rdStep s r h p[k].toNat = some (match s[p[k].toNat - 97]? with | some m => (addM r m, h) | none => (r, h)) := by rw [rdStep, if_pos (hl k (Nat.le_refl _) (by omega) hk)]; rfl
    obtain ⟨q, h1, h2, h3⟩ := rdN_ok (s := s) (h := h) (p := p) n (k + 1) (match s[p[k].toNat - 97]? with | some m => addM r m | none => r) (by omega) (fun i a b h => hl i (by omega) (by omega) h)
    refine ⟨q, ?_, fun g => h2 ?_, fun x => ?_⟩
    · rw [rdN, dif_pos hk, hstep]
      cases e : s[p[k].toNat - 97]? with
      | some m => rw [e] at h1; exact h1
      | none => rw [e] at h1; exact h1
    · cases e : s[p[k].toNat - 97]? with
      | some m => exact chan_deliver g (List.mem_of_getElem? e)
      | none => exact g
    · rw [h3]
      have hm : (x ∈ (match s[p[k].toNat - 97]? with | some m => addM r m | none => r)) ↔ x ∈ r ∨ s[p[k].toNat - 97]? = some x := by
        cases e : s[p[k].toNat - 97]? with
        | some m => simp only [mem_addM, Option.some.injEq]; exact ⟨fun h => h.imp id Eq.symm, fun h => h.imp id Eq.symm⟩
        | none => simp
      rw [hm]
      constructor
      · rintro ((h | h) | ⟨i, h, a, b, c⟩)
        · exact .inl h
        · exact .inr ⟨k, hk, Nat.le_refl _, by omega, h⟩
        · exact .inr ⟨i, h, by omega, by omega, c⟩
      · rintro (h | ⟨i, h, a, b, c⟩)
        · exact .inl (.inl h)
        · by_cases e : k = i
          · subst e; exact .inl (.inr c)
          · exact .inr ⟨i, h, by omega, by omega, c⟩
theorem get_data {p : ByteArray} {i : Nat} (h : i < p.size) : p.data.toList[i]? = some p[i] := by rw [List.getElem?_eq_getElem (by simpa using h)]; rfl
/-- A plan of small letters. -/
theorem run_small {s r h : List Msg} {p : ByteArray} (g : chanB s r h = true) (h60 : p.size ≤ 60) (hp : ∀ c ∈ p.data.toList, 97 ≤ c.toNat ∧ c.toNat ≤ 122) : ∃ q, runT s r h p = ((s, q, h), true) ∧ chanB s q h = true ∧ ∀ x, x ∈ q ↔ x ∈ r ∨ ∃ c ∈ p.data.toList, s[c.toNat - 97]? = some x := by
  obtain ⟨q, h1, h2, h3⟩ := rdN_ok (s := s) (h := h) (p := p) p.size 0 r (by omega) fun i _ _ hi => hp _ (List.mem_of_getElem? (get_data hi))
  refine ⟨q, ?_, h2 g, fun x => (h3 x).trans ⟨fun k => k.imp id ?_, fun k => k.imp id ?_⟩⟩
  · rw [runT, if_pos (by rw [runOk, g, decide_eq_true h60]; rfl), h1]
  · rintro ⟨i, hi, _, _, e⟩
    exact ⟨_, List.mem_of_getElem? (get_data hi), e⟩
  · rintro ⟨c, hc, e⟩
    obtain ⟨i, hi⟩ := List.getElem?_of_mem hc
    have hlt : i < p.size := by have := (List.getElem?_eq_some_iff.1 hi).1; simpa using this
    have := (get_data hlt).symm.trans hi
    injection this with this
    subst this
    exact ⟨i, hlt, by omega, by omega, e⟩
theorem some_same {l k all : List Msg} (h1 : someB l all = true) (h2 : someB k all = true) (h : ∀ x, x ∈ l ↔ x ∈ k) : l.length = k.length := by
  have key : ∀ {a b : List Msg}, someB a all = true → (∀ x ∈ a, x ∈ b) → a.length ≤ b.length := by
    intro a b ha hab
    refine nod_len a b fun i x hx => ⟨hab x (List.mem_of_getElem? hx), ?_⟩
    have := range_all ha (List.getElem?_eq_some_iff.1 hx).1
    unfold someAt at this
    rw [hx] at this
    simp only [Bool.and_eq_true, Bool.not_eq_true'] at this
    intro hm
    rw [memM_iff.2 hm] at this
    exact absurd this.2 (by decide)
  have := key h1 fun x hx => (h x).1 hx
  have := key h2 fun x hx => (h x).2 hx
  omega
/-- Two plans of k letters: one forwards, one backwards. -/
def UD (k : Nat) (u d : ByteArray) : Prop := u.data.toList.length = k ∧ d.data.toList = u.data.toList.reverse ∧ ∀ c ∈ u.data.toList, 97 ≤ c.toNat ∧ c.toNat ≤ 122
theorem UD.nil : UD 0 ⟨#[]⟩ ⟨#[]⟩ := ⟨rfl, rfl, fun c h => by cases h⟩
theorem UD.add {k : Nat} {u d a : ByteArray} {c : UInt8} (h : UD k u d) (ha : a.data.toList = [c]) (hc : 97 ≤ c.toNat ∧ c.toNat ≤ 122) : UD (k + 1) (u ++ a) (a ++ d) := by
  obtain ⟨h1, h2, h3⟩ := h
  refine ⟨by rw [ByteArray.data_append, Array.toList_append, List.length_append, ha, h1]; rfl, ?_, ?_⟩
  · rw [ByteArray.data_append, Array.toList_append, ByteArray.data_append, Array.toList_append, List.reverse_append, ha, h2]; rfl
  · intro x hx
    rw [ByteArray.data_append, Array.toList_append, ha, List.mem_append] at hx
    rcases hx with hx | hx
    · exact h3 x hx
    · rw [List.mem_singleton.1 hx]; exact hc
theorem UD.size {k : Nat} {u d : ByteArray} (h : UD k u d) : u.size = k ∧ d.size = k := by
  have h1 := h.1
  have h2 := congrArg List.length h.2.1
  rw [List.length_reverse] at h2
  rw [Lib.size_eq, Lib.size_eq]
  omega
theorem run_law {s r h : List Msg} {f u d : ByteArray} {k : Nat} (g : (chanB s r h && nameB f) = true) (hk : k ≤ 60) (hu : UD k u d) : ∃ q q', runT s r h u = ((s, q, h), true) ∧ runT s r h d = ((s, q', h), true) ∧ q.length = q'.length ∧ (chanB s q h && nameB f) = true ∧ (chanB s q' h && nameB f) = true ∧ ordF q f = ordF q' f := by
  simp only [Bool.and_eq_true] at g
  have hz := hu.size
  obtain ⟨q, a1, a2, a3⟩ := run_small g.1 (p := u) (by omega) hu.2.2
  obtain ⟨q', b1, b2, b3⟩ := run_small g.1 (p := d) (by omega) fun c hc => hu.2.2 c (by rw [hu.2.1] at hc; exact List.mem_reverse.1 hc)
  have hm : ∀ x, x ∈ q ↔ x ∈ q' := fun x => by
    rw [a3, b3, hu.2.1]
    simp only [List.mem_reverse]
  obtain ⟨c1, _, c3, _⟩ := chan_parts a2
  obtain ⟨_, _, d3, _⟩ := chan_parts b2
  refine ⟨q, q', a1, b1, some_same c3 d3 hm, by rw [a2, g.2]; rfl, by rw [b2, g.2]; rfl, ord_congr (sent_key c1) (someB_sub c3) (someB_sub d3) hm f⟩
theorem rdStep_ok {s r h : List Msg} {c : Nat} {q : List Msg × List Msg} (e : rdStep s r h c = some q) (g : chanB s r h = true) : chanB s q.1 q.2 = true ∧ r.length ≤ q.1.length ∧ h.length ≤ q.2.length := by
  have key : ∀ (l : List Msg) (m : Msg), l.length ≤ (addM l m).length := fun l m => by unfold addM; split <;> simp
  unfold rdStep at e
  split at e
  · injection e with e
    subst e
    split
    · rename_i m hm
      exact ⟨chan_deliver g (List.mem_of_getElem? hm), key _ _, Nat.le_refl _⟩
    · exact ⟨g, Nat.le_refl _, Nat.le_refl _⟩
  · split at e
    · injection e with e
      subst e
      split
      · rename_i m hm
        exact ⟨chan_confirm g (List.mem_of_getElem? hm), Nat.le_refl _, key _ _⟩
      · exact ⟨g, Nat.le_refl _, Nat.le_refl _⟩
    · cases e
theorem rdN_chan {s : List Msg} {p : ByteArray} : ∀ {n k : Nat} {r h : List Msg} {q : List Msg × List Msg}, rdN s p n k r h = some q → chanB s r h = true → chanB s q.1 q.2 = true ∧ r.length ≤ q.1.length ∧ h.length ≤ q.2.length
  | 0, k, r, h, q, e, g => by
    injection e with e
    subst e
    exact ⟨g, Nat.le_refl _, Nat.le_refl _⟩
  | n + 1, k, r, h, q, e, g => by
    rw [rdN] at e
    split at e
    · split at e
      · rename_i q' hq
        obtain ⟨g1, g2, g3⟩ := rdStep_ok hq g
        obtain ⟨k1, k2, k3⟩ := rdN_chan e g1
        exact ⟨k1, by omega, by omega⟩
      · cases e
    · injection e with e
      subst e
      exact ⟨g, Nat.le_refl _, Nat.le_refl _⟩
theorem runT_law {s r h : List Msg} {p : ByteArray} (g : (runT s r h p).2 = true) : ∃ q q', runT s r h p = ((s, q, q'), true) ∧ chanB s q q' = true ∧ r.length ≤ q.length ∧ h.length ≤ q'.length := by
  unfold runT at g ⊢
  split at g
  · rename_i h0
    rw [if_pos h0]
    unfold runOk at h0
    simp only [Bool.and_eq_true] at h0
    split at g
    · rename_i q hq
      obtain ⟨k1, k2, k3⟩ := rdN_chan hq h0.1
      exact ⟨q.1, q.2, rfl, k1, k2, k3⟩
    · cases g
  · cases g
end Go.Proofs.YtjmjilkpckbpeaaGreatDoor

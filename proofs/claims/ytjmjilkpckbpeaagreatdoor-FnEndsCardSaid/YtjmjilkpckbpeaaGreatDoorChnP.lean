/- Channels: what holds between the answers of several calls. Plain Lean: no program walked. No conditions. -/
import Derived.Test.YtjmjilkpckbpeaaGreatDoorLD
namespace Go.Proofs.YtjmjilkpckbpeaaGreatDoor
open Go.RowKit

theorem range_iff {k : Nat} {p : Nat → Bool} : (List.range k).all p = true ↔ ∀ i, i < k → p i = true := by
  rw [List.all_eq_true]
  exact ⟨fun h i hi => h i (List.mem_range.2 hi), fun h i hi => h i (List.mem_range.1 hi)⟩
theorem some_snoc (l all : List Msg) (m : Msg) : someB (l ++ [m]) all = (someB l all && (memM all m && !memM l m)) := by
  unfold someB
  rw [List.length_append, List.length_singleton, List.range_succ, List.all_append]
  congr 1
  · rw [Bool.eq_iff_iff, range_iff, range_iff]
    have e : ∀ i, i < l.length → someAt (l ++ [m]) all i = someAt l all i := fun i hi => by
      unfold someAt
      rw [List.getElem?_append_left hi, List.take_append_of_le_length (by omega)]
    exact ⟨fun h i hi => (e i hi) ▸ h i hi, fun h i hi => (e i hi).symm ▸ h i hi⟩
  · simp [someAt]
theorem some_mono {l a b : List Msg} (h : someB l a = true) (hs : ∀ x ∈ a, x ∈ b) : someB l b = true := by
  unfold someB at h ⊢
  rw [range_iff] at h ⊢
  intro i hi
  have := h i hi
  unfold someAt at this ⊢
  rw [List.getElem?_eq_getElem hi] at this ⊢
  simp only [Bool.and_eq_true] at this ⊢
  exact ⟨memM_iff.2 (hs _ (memM_iff.1 this.1)), this.2⟩
theorem some_add {l all : List Msg} {m : Msg} (h : someB l all = true) (hm : m ∈ all) : someB (addM l m) all = true := by
  unfold addM
  split
  · exact h
  · rename_i g
    rw [some_snoc, h, memM_iff.2 hm]
    simpa using g
theorem addM_in {l : List Msg} {m : Msg} (h : m ∈ l) : addM l m = l := if_pos (memM_iff.2 h)
theorem addM_twice (l : List Msg) (m : Msg) : addM (addM l m) m = addM l m := addM_in (mem_addM.2 (.inr rfl))
theorem fold_mem {x : Msg} : ∀ {l r : List Msg}, x ∈ l.foldl addM r ↔ x ∈ r ∨ x ∈ l
  | [], r => by simp
  | m :: l, r => by rw [List.foldl_cons, fold_mem, mem_addM, List.mem_cons]; exact or_assoc
theorem chan_parts {s r h : List Msg} (g : chanB s r h = true) : sentB s = true ∧ s.length ≤ 30 ∧ someB r s = true ∧ someB h r = true := by
  simp only [chanB, Bool.and_eq_true, decide_eq_true_eq] at g
  exact ⟨g.1.1.1, g.1.1.2, g.1.2, g.2⟩
theorem chan_mk {s r h : List Msg} (g1 : sentB s = true) (g2 : s.length ≤ 30) (g3 : someB r s = true) (g4 : someB h r = true) : chanB s r h = true := by
  rw [chanB, g1, g3, g4, decide_eq_true g2]; rfl
theorem chan_deliver {s r h : List Msg} {m : Msg} (g : chanB s r h = true) (hm : m ∈ s) : chanB s (addM r m) h = true := by
  obtain ⟨g1, g2, g3, g4⟩ := chan_parts g
  exact chan_mk g1 g2 (some_add g3 hm) (some_mono g4 fun x hx => mem_addM.2 (.inl hx))
theorem chan_confirm {s r h : List Msg} {m : Msg} (g : chanB s r h = true) (hm : m ∈ r) : chanB s r (addM h m) = true := by
  obtain ⟨g1, g2, g3, g4⟩ := chan_parts g
  exact chan_mk g1 g2 g3 (some_add g4 hm)
theorem chan_fold {s h : List Msg} : ∀ {l r : List Msg}, chanB s r h = true → (∀ x ∈ l, x ∈ s) → chanB s (l.foldl addM r) h = true
  | [], _, g, _ => g
  | m :: l, _, g, hl => chan_fold (l := l) (chan_deliver g (hl m List.mem_cons_self)) fun x hx => hl x (List.mem_cons_of_mem _ hx)
theorem find_congr {s r r' : List Msg} (hU : KeyU s) (h1 : ∀ x ∈ r, x ∈ s) (h2 : ∀ x ∈ r', x ∈ s) (h : ∀ x, x ∈ r ↔ x ∈ r') (nm : ByteArray) (k : Int) : r.find? (keyP nm k) = r'.find? (keyP nm k) := by
  cases e : r.find? (keyP nm k) with
  | none =>
    symm
    rw [List.find?_eq_none] at e ⊢
    exact fun x hx => e x ((h x).2 hx)
  | some x =>
    cases e' : r'.find? (keyP nm k) with
    | none => exact absurd (List.find?_some e) (List.find?_eq_none.1 e' x ((h x).1 (List.mem_of_find?_eq_some e)))
    | some y =>
      have a := keyP_iff.1 (List.find?_some e)
      have b := keyP_iff.1 (List.find?_some e')
      rw [hU x (h1 x (List.mem_of_find?_eq_some e)) y (h2 y (List.mem_of_find?_eq_some e')) (a.1.trans b.1.symm) (a.2.trans b.2.symm)]
theorem ordL_congr {r r' : List Msg} {nm : ByteArray} (h : ∀ k : Int, r.find? (keyP nm k) = r'.find? (keyP nm k)) : ∀ k n, ordL r nm k n = ordL r' nm k n
  | 0, _ => rfl
  | k + 1, n => by
    unfold ordL
    rw [h]
    cases r'.find? (keyP nm (n : Int)) with
    | none => rfl
    | some m => simp only [ordL_congr h k (n + 1)]
theorem ord_congr {s r r' : List Msg} (hU : KeyU s) (h1 : ∀ x ∈ r, x ∈ s) (h2 : ∀ x ∈ r', x ∈ s) (h : ∀ x, x ∈ r ↔ x ∈ r') (nm : ByteArray) : ordF r nm = ordF r' nm := ordL_congr (find_congr hU h1 h2 h nm) _ _
/-- The messages of a name. -/
def ofL (s : List Msg) (nm : ByteArray) : List Msg := s.filter fun m => decide (m.f.toList = nm.toList)
theorem cnt_ofL (s : List Msg) (nm : ByteArray) : cntM s nm = (ofL s nm).length := rfl
theorem sent_snoc (s : List Msg) (m : Msg) : sentB (s ++ [m]) = (sentB s && (msgB m && decide (m.n = (cntM s m.f : Int) + 1))) := by
  unfold sentB
  rw [List.length_append, List.length_singleton, List.range_succ, List.all_append]
  congr 1
  · rw [Bool.eq_iff_iff, range_iff, range_iff]
    have e : ∀ i, i < s.length → sentAt (s ++ [m]) i = sentAt s i := fun i hi => by
      unfold sentAt
      rw [List.getElem?_append_left hi, List.take_append_of_le_length (by omega)]
    exact ⟨fun h i hi => (e i hi) ▸ h i hi, fun h i hi => (e i hi).symm ▸ h i hi⟩
  · simp [sentAt]
theorem ofL_snoc (s : List Msg) (m : Msg) (nm : ByteArray) : ofL (s ++ [m]) nm = if m.f = nm then ofL s nm ++ [m] else ofL s nm := by
  unfold ofL
  rw [List.filter_append]
  by_cases e : m.f = nm
  · subst e; simp
  · have : ¬ m.f.toList = nm.toList := fun q => e (toList_inj q)
    simp [e, this]
theorem snoc_ind {α : Type} {p : List α → Prop} (h0 : p []) (h1 : ∀ l x, p l → p (l ++ [x])) (l : List α) : p l := by
  have : ∀ k, k ≤ l.length → p (l.take k) := by
    intro k
    induction k with
    | zero => intro _; simpa using h0
    | succ k ih =>
      intro hk
      have hx : l[k]? = some l[k] := List.getElem?_eq_getElem (by omega)
      rw [take_snoc hx]
      exact h1 _ _ (ih (by omega))
  simpa using this l.length (Nat.le_refl _)
/-- The messages of a name have the numbers 1, 2 and so on. -/
theorem ofL_num {s : List Msg} (nm : ByteArray) : sentB s = true → ∀ (i : Nat) (m : Msg), (ofL s nm)[i]? = some m → m.f = nm ∧ m.n = (i : Int) + 1 := by
  refine snoc_ind (p := fun s => sentB s = true → ∀ (i : Nat) (m : Msg), (ofL s nm)[i]? = some m → m.f = nm ∧ m.n = (i : Int) + 1) ?_ ?_ s
  · intro _ i m h; simp [ofL] at h
  · intro l x ih hs i m h
    rw [sent_snoc, Bool.and_eq_true, Bool.and_eq_true, decide_eq_true_eq] at hs
    rw [ofL_snoc] at h
    split at h
    · rename_i e
      rcases Nat.lt_or_ge i (ofL l nm).length with hi | hi
      · rw [List.getElem?_append_left hi] at h
        exact ih hs.1 i m h
      · rw [List.getElem?_append_right hi] at h
        have h0 : i - (ofL l nm).length = 0 := by
          have := (List.getElem?_eq_some_iff.1 h).1
          simp at this; omega
        rw [h0] at h
        obtain rfl : x = m := by simpa using h
        refine ⟨e, ?_⟩
        rw [hs.2.2, e, cnt_ofL]
        omega
    · exact ih hs.1 i m h
theorem ofL_mem {s : List Msg} {nm : ByteArray} {m : Msg} : m ∈ ofL s nm ↔ m ∈ s ∧ m.f = nm := by
  unfold ofL
  rw [List.mem_filter, decide_eq_true_eq]
  exact ⟨fun h => ⟨h.1, toList_inj h.2⟩, fun h => ⟨h.1, by rw [h.2]⟩⟩
/-- The i-th text in order is that of the i-th message of the name. -/
theorem ord_at {s r : List Msg} (hs : sentB s = true) (hr : ∀ x ∈ r, x ∈ s) (nm : ByteArray) {i : Nat} (hi : i < (ordF r nm).length) : ∃ m, (ofL s nm)[i]? = some m ∧ (ordF r nm)[i]? = some m.b ∧ m ∈ r := by
  obtain ⟨m, h1, h2⟩ := ordL_at (r := r) (f := nm) (k := 1000) (n := 1) hi
  have hk := keyP_iff.1 (List.find?_some h1)
  have hmr := List.mem_of_find?_eq_some h1
  obtain ⟨j, hj⟩ := List.mem_iff_getElem?.1 (ofL_mem.2 ⟨hr m hmr, hk.1⟩)
  have := (ofL_num nm hs j m hj).2
  have : j = i := by have := hk.2; omega
  subst this
  exact ⟨m, hj, h2, hmr⟩
theorem ord_le {s r : List Msg} (hs : sentB s = true) (hr : ∀ x ∈ r, x ∈ s) (nm : ByteArray) : (ordF r nm).length ≤ (ofL s nm).length := by
  rcases Nat.lt_or_ge (ofL s nm).length (ordF r nm).length with h | h
  · obtain ⟨m, h1, _⟩ := ord_at hs hr nm (i := (ofL s nm).length) h
    rw [List.getElem?_eq_none (Nat.le_refl _)] at h1
    cases h1
  · exact h
theorem ord_full {s r : List Msg} (hs : sentB s = true) (hr : ∀ x ∈ r, x ∈ s) (nm : ByteArray) (hl : (ordF r nm).length = (ofL s nm).length) : ordF r nm = (ofL s nm).map fun m => m.b := by
  apply List.ext_getElem?
  intro i
  rcases Nat.lt_or_ge i (ordF r nm).length with h | h
  · obtain ⟨m, h1, h2, _⟩ := ord_at hs hr nm h
    rw [h2, List.getElem?_map, h1]; rfl
  · rw [List.getElem?_eq_none h, List.getElem?_eq_none (by rw [List.length_map]; omega)]
theorem ord_all {s r : List Msg} (hs : sentB s = true) (_hl : s.length ≤ 30) (hr : ∀ x ∈ r, x ∈ s) (ha : ∀ x ∈ s, x ∈ r) (nm : ByteArray) : (ordF r nm).length = (ofL s nm).length := by
  have hle := ord_le hs hr nm
  have h30 : (ofL s nm).length ≤ s.length := List.length_filter_le _ _
  rcases Nat.lt_or_ge (ordF r nm).length (ofL s nm).length with h | h
  · exfalso
    have hm : (ofL s nm)[(ordF r nm).length]? = some (ofL s nm)[(ordF r nm).length] := List.getElem?_eq_getElem h
    have hq := ofL_num nm hs _ _ hm
    have hin := ha _ (ofL_mem.1 (List.mem_of_getElem? hm)).1
    have hnum : ∀ x ∈ r, x.n ≤ 999 := fun x hx => by
      obtain ⟨j, hj⟩ := List.getElem?_of_mem (hr x hx)
      have := (sentB_at hs hj).1
      simp only [msgB, inB, Bool.and_eq_true, decide_eq_true_eq] at this
      exact this.1.2.2
    have key := ordF_find hnum (f := nm) (n := (ordF r nm).length + 1) (by omega) (by omega)
    rw [decide_eq_false (by omega), Option.isSome_eq_false_iff, Option.isNone_iff_eq_none, List.find?_eq_none] at key
    exact key _ hin (keyP_iff.2 ⟨hq.1, by rw [hq.2]; push_cast; rfl⟩)
  · omega
/-- A message sent leaves a valid channel. -/
theorem chan_send {s r h : List Msg} {f b : ByteArray} (g : sndOk s r h f b = true) : chanB (s ++ [⟨f, (cntM s f : Int) + 1, b⟩]) r h = true := by
  simp only [sndOk, Bool.and_eq_true, Bool.not_eq_true', decide_eq_false_iff_not] at g
  obtain ⟨⟨⟨g1, g2⟩, g3⟩, g4⟩ := g
  obtain ⟨p1, p2, p3, p4⟩ := chan_parts g1
  have hc : cntM s f ≤ s.length := List.length_filter_le _ _
  refine chan_mk ?_ (by simp; omega) (some_mono p3 fun x hx => List.mem_append_left _ hx) p4
  rw [sent_snoc, p1]
  simp only [msgB, g2, g3, inB, Bool.true_and, Bool.and_true, Bool.and_eq_true, decide_eq_true_eq]
  exact ⟨by omega, trivial⟩
end Go.Proofs.YtjmjilkpckbpeaaGreatDoor

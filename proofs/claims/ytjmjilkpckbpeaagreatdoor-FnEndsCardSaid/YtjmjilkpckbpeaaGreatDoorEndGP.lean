/- Ends and channels: what holds between the answers of several calls. Plain Lean: no program walked. No conditions. -/
import Derived.Test.YtjmjilkpckbpeaaGreatDoorLP
import Derived.Test.YtjmjilkpckbpeaaGreatDoorChnP
namespace Go.Proofs.YtjmjilkpckbpeaaGreatDoor
open Go.RowKit

theorem ends_mk {f n : List App} {s r h : List Msg} (g1 : fleetB f = true) (g2 : fleetB n = true) (g3 : chanB s r h = true) (g4 : f.length = n.length) (g5 : ∀ m ∈ s, knownB f m = true) (g6 : ∀ i, i < f.length → endAt f n s i = true) : endsB f n s r h = true := by
  unfold endsB
  rw [g1, g2, g3, decide_eq_true g4, List.all_eq_true.2 g5, all_range.2 g6]; rfl
theorem ends_chan {f n : List App} {s r h r' h' : List Msg} (g : endsB f n s r h = true) (k : chanB s r' h' = true) : endsB f n s r' h' = true := by
  obtain ⟨g1, g2, _, g4, g5, g6⟩ := ends_parts g
  exact ends_mk g1 g2 k g4 g5 g6
theorem view_congr {f : List App} {r r' : List Msg} (h : ∀ nm, ordF r nm = ordF r' nm) : viewF f r = viewF f r' := by
  unfold viewF
  congr 1
  funext a
  unfold viewA
  rw [h]
theorem sentS_map (s : List Msg) (nm : ByteArray) : sentS s nm = (ofL s nm).map fun m => stF m.b := rfl
theorem ends_at {f n : List App} {s r h : List Msg} (g : endsB f n s r h = true) {i : Nat} {a b : App} (ha : f[i]? = some a) (hb : n[i]? = some b) : chainF a.st (sentS s a.nm) = some b.st ∧ withSt a b.st = b := by
  obtain ⟨_, _, _, _, _, g6⟩ := ends_parts g
  have := g6 i (List.getElem?_eq_some_iff.1 ha).1
  simp only [endAt, ha, hb] at this
  cases e : chainF a.st (sentS s a.nm) with
  | none => rw [e] at this; cases this
  | some x =>
    rw [e] at this
    have hx := App.eqB_iff.1 this
    have : b.st = x := by rw [← hx]; rfl
    rw [this]
    exact ⟨rfl, hx⟩
theorem chain_last : ∀ {L : List Int} {st x : Int}, chainF st L = some x → L.getLast? = some x ∨ (L = [] ∧ x = st)
  | [], st, x, h => .inr ⟨rfl, by simpa [chainF] using h.symm⟩
  | y :: L, st, x, h => by
    rw [chainF] at h
    split at h
    · rcases chain_last h with e | ⟨rfl, rfl⟩
      · refine .inl ?_
        cases L with
        | nil => simp at e
        | cons z L => rw [List.getLast?_cons_cons]; exact e
      · exact .inl rfl
    · cases h
theorem chain_snoc : ∀ {L : List Int} {st y x : Int}, chainF st L = some y → mayB y x = true → chainF st (L ++ [x]) = some x
  | [], st, y, x, h, hm => by
    simp only [chainF, Option.some.injEq] at h
    subst h
    simp [chainF, hm]
  | z :: L, st, y, x, h, hm => by
    rw [chainF] at h
    rw [List.cons_append, chainF]
    split at h
    · rename_i g
      rw [if_pos g]
      exact chain_snoc h hm
    · cases h
/-- All of a name in order: the view is the state now. -/
theorem view_now {f n : List App} {s r h : List Msg} (g : endsB f n s r h = true) {i : Nat} {a b : App} (ha : f[i]? = some a) (hb : n[i]? = some b) (hl : (ordF r a.nm).length = (ofL s a.nm).length) : viewA r a = b := by
  obtain ⟨c1, c2⟩ := ends_at g ha hb
  obtain ⟨_, _, p3, _⟩ := ends_parts g
  have G := ChanG.of p3
  have hf := ord_full (chan_parts p3).1 G.rs a.nm hl
  unfold viewA
  rw [hf, List.getLast?_map]
  rw [sentS_map] at c1
  rcases chain_last c1 with e | ⟨e, e2⟩
  · rw [List.getLast?_map] at e
    cases e3 : (ofL s a.nm).getLast? with
    | none => rw [e3] at e; cases e
    | some m =>
      rw [e3] at e
      have e4 : stF m.b = b.st := by simpa using e
      show withSt a (stF m.b) = b
      rw [e4]; exact c2
  · have : ofL s a.nm = [] := by simpa using e
    rw [this]
    show a = b
    rw [← c2, e2]; rfl
theorem ends_two {f n : List App} {s r h : List Msg} (g : endsB f n s r h = true) {i : Nat} (hi : i < f.length) : ∃ a b : App, f[i]? = some a ∧ n[i]? = some b ∧ b.nm = a.nm := by
  obtain ⟨_, _, _, g4, _⟩ := ends_parts g
  have ha : f[i]? = some f[i] := List.getElem?_eq_getElem hi
  have hb : n[i]? = some (n[i]'(by omega)) := List.getElem?_eq_getElem (by omega)
  refine ⟨_, _, ha, hb, ?_⟩
  rw [← (ends_at g ha hb).2]; rfl
theorem all_parts {f n : List App} {s r h : List Msg} (g : endsB f n s r h = true) : endsB f n s (s.foldl addM r) h = true ∧ ∀ nm, (ordF (s.foldl addM r) nm).length = (ofL s nm).length := by
  obtain ⟨_, _, p3, _⟩ := ends_parts g
  have G := ChanG.of p3
  refine ⟨ends_chan g (chan_fold p3 fun x hx => hx), fun nm => ord_all (chan_parts p3).1 G.len (fun x hx => (fold_mem.1 hx).elim (G.rs x) id) (fun x hx => fold_mem.2 (.inr hx)) nm⟩
theorem view_all {f n : List App} {s r h : List Msg} (g : endsB f n s r h = true) : viewF f (s.foldl addM r) = n := by
  obtain ⟨g', hl⟩ := all_parts g
  obtain ⟨_, _, _, g4, _⟩ := ends_parts g
  apply List.ext_getElem?
  intro i
  rcases Nat.lt_or_ge i f.length with hi | hi
  · obtain ⟨a, b, ha, hb, _⟩ := ends_two g hi
    rw [viewF_at ha, hb, view_now g' ha hb (hl a.nm)]
  · rw [List.getElem?_eq_none (by rw [viewF_len]; exact hi), List.getElem?_eq_none (by omega)]
theorem agr_same (n : List App) : (agrL n n).length = n.length := by
  have : agrL n n = n.map fun a => a.nm := by
    unfold agrL
    induction n with
    | nil => rfl
    | cons a n ih => rw [List.zip_cons_cons, List.filterMap_cons]; simpa using ih
  rw [this, List.length_map]
theorem agr_mem {v n : List App} {i : Nat} {a b : App} (ha : v[i]? = some a) (hb : n[i]? = some b) (he : a.st = b.st) : a.nm ∈ agrL v n := by
  unfold agrL
  refine List.mem_filterMap.2 ⟨(a, b), ?_, by simp [he]⟩
  refine List.mem_iff_getElem?.2 ⟨i, ?_⟩
  rw [List.getElem?_zip_eq_some]
  exact ⟨ha, hb⟩
/-- After all messages are delivered: the view is the fleet now, all agree, and nobody is behind. -/
theorem all_law {f n : List App} {s r h : List Msg} (g : endsB f n s r h = true) : viewT f n s (s.foldl addM r) h = (n, true) ∧ (agrT f n s (s.foldl addM r) h).2 = true ∧ (agrT f n s (s.foldl addM r) h).1.length = n.length := by
  obtain ⟨g', _⟩ := all_parts g
  refine ⟨by rw [viewT_yes g', view_all g], by rw [agrT_yes g'], ?_⟩
  rw [agrT_yes g', view_all g]
  exact agr_same n
theorem agr_le {f n : List App} {s r h : List Msg} (g : endsB f n s r h = true) : (agrT f n s r h).1.length ≤ n.length := by
  obtain ⟨_, _, _, g4, _⟩ := ends_parts g
  rw [agrT_yes g]
  have := agrL_len (viewF f r) n
  rw [viewF_len] at this
  show (agrL (viewF f r) n).length ≤ _
  omega
theorem any_of {f : List App} {a : App} (h : a ∈ f) : (f.any fun x : App => decide (x.nm.toList = a.nm.toList)) = true := List.any_eq_true.2 ⟨a, h, by simp⟩
/-- One appliance: nobody is behind when all is delivered; and who is not behind agrees. -/
theorem beh_law {f n : List App} {s r h : List Msg} (g : endsB f n s r h = true) {x : App} (hx : x ∈ n) : behT f n s (s.foldl addM r) h x.nm = (0, true) ∧ (behT f n s r h x.nm).2 = true ∧ 0 ≤ (behT f n s r h x.nm).1 ∧ ((behT f n s r h x.nm).1 = 0 → x.nm ∈ (agrT f n s r h).1) := by
  obtain ⟨g', hl⟩ := all_parts g
  obtain ⟨_, _, p3, g4, _⟩ := ends_parts g
  have G := ChanG.of p3
  obtain ⟨i, hi⟩ := List.mem_iff_getElem?.1 hx
  have hif : i < f.length := by have := (List.getElem?_eq_some_iff.1 hi).1; omega
  obtain ⟨a, b, ha, hb, hn⟩ := ends_two g hif
  obtain rfl : x = b := by rw [hi] at hb; exact Option.some.inj hb
  have hk := any_of (List.mem_of_getElem? ha)
  rw [hn]
  have hle := ord_le (chan_parts p3).1 G.rs a.nm
  refine ⟨?_, ?_, ?_, ?_⟩
  · rw [behT_yes g' hk, sentS_map, List.length_map, hl]
    simp
  · rw [behT_yes g hk]
  · rw [behT_yes g hk, sentS_map, List.length_map]
    show (0 : Int) ≤ _ - _
    omega
  · rw [behT_yes g hk, sentS_map, List.length_map, agrT_yes g]
    intro e
    have e : ((ofL s a.nm).length : Int) - ((ordF r a.nm).length : Int) = 0 := e
    have hv := view_now g ha hb (by omega)
    have := agr_mem (viewF_at (r := r) ha) hb (by rw [hv])
    rw [viewA_nm] at this
    exact this
theorem start_law {l : List App} (g : fleetB l = true) : endsB l l [] [] [] = true ∧ (agrT l l [] [] []).2 = true ∧ (agrT l l [] [] []).1.length = l.length := by
  have g' : endsB l l [] [] [] = true := ends_mk g g rfl rfl (by simp) (fun i hi => by
    have ha : l[i]? = some l[i] := List.getElem?_eq_getElem hi
    simp only [endAt, ha, sentS, List.filter_nil, List.map_nil, chainF]
    exact App.eqB_iff.2 rfl)
  have hv : viewF l [] = l := by
    unfold viewF
    have : ∀ a ∈ l, viewA [] a = a := fun a _ => rfl
    simpa using List.map_congr_left this
  refine ⟨g', by rw [agrT_yes g'], ?_⟩
  rw [agrT_yes g', hv]
  exact agr_same l
theorem app_with {a : App} {st : Int} (g : appB a = true) (h : stOk st = true) : appB (withSt a st) = true := by
  unfold appB at g ⊢
  simp only [Bool.and_eq_true] at g ⊢
  exact ⟨g.1, h⟩
theorem flt_iff {l : List App} {i : Nat} {a : App} (ha : l[i]? = some a) : fltAt l i = true ↔ appB a = true ∧ ∀ j, i = j + 1 → ∃ b : App, l[j]? = some b ∧ Op.bytesLess b.nm.toList a.nm.toList = true := by
  have hi := (List.getElem?_eq_some_iff.1 ha).1
  cases i with
  | zero => rw [fltAt_0 ha]; exact ⟨fun h => ⟨h, fun j e => by omega⟩, fun h => h.1⟩
  | succ j =>
    have hb : l[j]? = some l[j] := List.getElem?_eq_getElem (by omega)
    rw [fltAt_s ha hb, Bool.and_eq_true]
    refine ⟨fun h => ⟨h.1, fun k e => ?_⟩, fun h => ⟨h.1, ?_⟩⟩
    · obtain rfl : j = k := by omega
      exact ⟨_, hb, h.2⟩
    · obtain ⟨b, h1, h2⟩ := h.2 j rfl
      rw [hb] at h1
      obtain rfl := Option.some.inj h1
      exact h2
theorem fleet_set {l : List App} {k : Nat} {a : App} {st : Int} (g : fleetB l = true) (ha : l[k]? = some a) (h : stOk st = true) : fleetB (l.set k (withSt a st)) = true := by
  have hk := (List.getElem?_eq_some_iff.1 ha).1
  have nm : ∀ (i : Nat) (x : App), (l.set k (withSt a st))[i]? = some x → ∃ y : App, l[i]? = some y ∧ x.nm = y.nm ∧ (appB y = true → appB x = true) := by
    intro i x hx
    by_cases e : k = i
    · subst e
      rw [List.getElem?_set_self hk] at hx
      obtain rfl := Option.some.inj hx
      exact ⟨a, ha, rfl, fun q => app_with q h⟩
    · rw [List.getElem?_set_ne e] at hx
      exact ⟨x, hx, rfl, id⟩
  unfold fleetB
  rw [Bool.and_eq_true, all_range]
  refine ⟨fun i hi => ?_, by rw [List.length_set]; exact decide_eq_true (fleet_len g)⟩
  have hx : (l.set k (withSt a st))[i]? = some (l.set k (withSt a st))[i] := List.getElem?_eq_getElem hi
  obtain ⟨y, hy, hn, hb⟩ := nm i _ hx
  have hq := (flt_iff hy).1 (fleet_at g (List.getElem?_eq_some_iff.1 hy).1)
  refine (flt_iff hx).2 ⟨hb hq.1, fun j e => ?_⟩
  obtain ⟨b, h1, h2⟩ := hq.2 j e
  have hj : (l.set k (withSt a st))[j]? = some (l.set k (withSt a st))[j] := List.getElem?_eq_getElem (by omega)
  obtain ⟨z, hz, hzn, _⟩ := nm j _ hj
  rw [h1] at hz
  obtain rfl := Option.some.inj hz
  exact ⟨_, hj, by rw [hzn, hn]; exact h2⟩
theorem stF_stT {st : Int} (h : stOk st = true) : stF (stT st) = st := (stF_of (.inr ⟨stOk_in h, rfl⟩)).symm
theorem set_at {n : List App} {k i : Nat} {x : App} (hk : k < n.length) : (n.set k x)[i]? = if k = i then some x else n[i]? := by
  by_cases e : k = i
  · subst e
    rw [List.getElem?_set_self hk, if_pos rfl]
  · rw [List.getElem?_set_ne e, if_neg e]
/-- What holds after TellState. -/
theorem tel_law {f n : List App} {s r h : List Msg} {nm : ByteArray} {st : Int} (g : (telT f n s r h nm st).2 = true) :
    endsB f n s r h = true ∧ stOk st = true ∧ (∃ k : Int, (telT f n s r h nm st).1 = (f, (chgT n nm st).1, s ++ [⟨nm, k, stT st⟩], r, h)) ∧ endsB f (chgT n nm st).1 (s ++ [⟨nm, (cntM s nm : Int) + 1, stT st⟩]) r h = true ∧ (telT f n s r h nm st).1.2.2.1 = s ++ [⟨nm, (cntM s nm : Int) + 1, stT st⟩] ∧ (behT f n s r h nm).2 = true ∧ behT f (chgT n nm st).1 (s ++ [⟨nm, (cntM s nm : Int) + 1, stT st⟩]) r h nm = ((behT f n s r h nm).1 + 1, true) := by
  unfold telT at g ⊢
  split at g
  rotate_left
  · cases g
  rename_i k
  rw [if_pos k]
  obtain ⟨k1, k2, k3⟩ := k
  obtain ⟨c1, c2, c3⟩ := chgT_snd k2
  have hok : sndOk s r h nm (stT st) = true := by
    unfold sndT at k3
    split at k3
    · assumption
    · cases k3
  have hs : sndT s r h nm (stT st) = ((s ++ [⟨nm, (cntM s nm : Int) + 1, stT st⟩], r, h), true) := (sndT_yes hok).symm
  obtain ⟨k, a, ha, he, hp, _⟩ : ∃ (k : Nat) (a : App), n[k]? = some a ∧ chgI n nm = k ∧ a.nm.toList = nm.toList ∧ True := by
    rcases idxG_spec (fun a : App => decide (a.nm.toList = nm.toList)) n 0 with ⟨e, _⟩ | ⟨k, x, hx, e, hp, _⟩
    · unfold chgI at c2; omega
    · exact ⟨k, x, hx, by unfold chgI; rw [e]; simp, by simpa using hp, trivial⟩
  have hnm : a.nm = nm := toList_inj hp
  have hmay : mayB a.st st = true := by
    cases e : mayB a.st st with
    | true => rfl
    | false => rw [chgT_no4 he ha e] at k2; cases k2
  have hc := chgT_yes c1 he c3 ha hmay
  obtain ⟨p1, p2, p3, p4, p5, p6⟩ := ends_parts k1
  have hkn := (List.getElem?_eq_some_iff.1 ha).1
  have hkf : k < f.length := by omega
  have hE : endsB f (chgT n nm st).1 (s ++ [⟨nm, (cntM s nm : Int) + 1, stT st⟩]) r h = true := by
    rw [hc]
    refine ends_mk p1 (fleet_set c1 ha c3) (chan_send hok) (by simpa using p4) ?_ ?_
    · intro m hm
      rcases List.mem_append.1 hm with hm | hm
      · exact p5 m hm
      · obtain rfl : m = ⟨nm, (cntM s nm : Int) + 1, stT st⟩ := by simpa using hm
        obtain ⟨x, y, hx, hy, hxy⟩ := ends_two k1 hkf
        rw [ha] at hy
        obtain rfl := Option.some.inj hy
        unfold knownB
        rw [Bool.and_eq_true]
        refine ⟨List.any_eq_true.2 ⟨x, List.mem_of_getElem? hx, by rw [← hxy, hnm]; simp⟩, ?_⟩
        show decide (0 ≤ stF (stT st)) = true
        rw [stF_stT c3]
        exact decide_eq_true (stOk_in c3).1
    · intro i hi
      obtain ⟨x, y, hx, hy, hxy⟩ := ends_two k1 hi
      obtain ⟨d1, d2⟩ := ends_at k1 hx hy
      have hsm : sentS (s ++ [⟨nm, (cntM s nm : Int) + 1, stT st⟩]) x.nm = if nm = x.nm then sentS s x.nm ++ [st] else sentS s x.nm := by
        rw [sentS_map, ofL_snoc]
        show List.map _ (if nm = x.nm then _ else _) = _
        split
        · rw [List.map_append, sentS_map]
          show _ ++ [stF (stT st)] = _
          rw [stF_stT c3]
        · rfl
      by_cases e : k = i
      · subst e
        rw [ha] at hy
        obtain rfl := Option.some.inj hy
        unfold endAt
        rw [hx, set_at hkn, if_pos rfl]
        show (match chainF x.st (sentS _ x.nm) with | some q => App.eqB (withSt x q) (withSt a st) | none => false) = true
        rw [hsm, if_pos (by rw [← hxy, hnm]), chain_snoc d1 hmay]
        refine App.eqB_iff.2 ?_
        rw [← d2]; rfl
      · unfold endAt
        rw [hx, set_at hkn, if_neg e, hy]
        show (match chainF x.st (sentS _ x.nm) with | some q => App.eqB (withSt x q) y | none => false) = true
        rw [hsm, if_neg, d1]
        · exact App.eqB_iff.2 d2
        · intro q
          exact e (fleet_inj c1 ha hy (by rw [hnm, hxy, q]))
  obtain ⟨x, y, hx, hy, hxy⟩ := ends_two k1 hkf
  rw [ha] at hy
  obtain rfl := Option.some.inj hy
  have hxn : x.nm = nm := by rw [← hxy, hnm]
  have hkx : (f.any fun x : App => decide (x.nm.toList = nm.toList)) = true := by rw [← hxn]; exact any_of (List.mem_of_getElem? hx)
  refine ⟨k1, c3, ⟨(cntM s nm : Int) + 1, by rw [hs]⟩, hE, by rw [hs], by rw [behT_yes k1 hkx], ?_⟩
  rw [behT_yes hE hkx, behT_yes k1 hkx, sentS_map, sentS_map, ofL_snoc, if_pos rfl]
  simp only [List.length_map, List.length_append, List.length_singleton, Prod.mk.injEq, and_true]
  omega
/-- A message received once more, and views after all is received. -/
theorem rec_law {f n : List App} {s r h : List Msg} {i : Int} (g : (recT f n s r h i).2 = true) : ∃ r', recT f n s r h i = ((f, n, s, r', h), true) ∧ endsB f n s r h = true ∧ endsB f n s r' h = true ∧ recT f n s r' h i = ((f, n, s, r', h), true) ∧ viewT f n s (s.foldl addM r') h = viewT f n s (s.foldl addM r) h ∧ (viewT f n s (s.foldl addM r) h).2 = true := by
  have key : endsB f n s r h = true ∧ inB i 0 ((s.length : Int) - 1) = true ∧ ∃ m, s[i.toNat]? = some m := by
    unfold recT at g
    split at g
    · rename_i k
      refine ⟨k.1, k.2, ?_⟩
      cases e : s[i.toNat]? with
      | some m => exact ⟨m, rfl⟩
      | none => rw [e] at g; cases g
    · cases g
  obtain ⟨g1, g2, m, hm⟩ := key
  obtain ⟨_, _, p3, _⟩ := ends_parts g1
  have hin := List.mem_of_getElem? hm
  have g' := ends_chan g1 (chan_deliver p3 hin)
  have e : ∀ q, endsB f n s q h = true → recT f n s q h i = ((f, n, s, addM q m, h), true) := fun q hq => by rw [recT, if_pos ⟨hq, g2⟩, hm]
  refine ⟨addM r m, e r g1, g1, g', by rw [e _ g', addM_twice], ?_, ?_⟩
  · rw [(all_law g').1, (all_law g1).1]
  · rw [(all_law g1).1]
theorem rsN_let {s : List Msg} {p : ByteArray} : ∀ {n k : Nat} {r q : List Msg}, rsN s p n k r = some q → ∀ i, k ≤ i → i < k + n → ∀ h : i < p.size, 97 ≤ p[i].toNat ∧ p[i].toNat ≤ 122
  | 0, k, r, q, _, i, h1, h2, _ => by omega
  | n + 1, k, r, q, e, i, h1, h2, h => by
    rw [rsN, dif_pos (by omega)] at e
    by_cases hi : k = i
    · subst hi
      unfold rsStep at e
      split at e
      · rename_i q' hq
        split at hq
        · assumption
        · cases hq
      · cases e
    · split at e
      · exact rsN_let e i (by omega) (by omega) h
      · cases e
theorem rsN_ok {s : List Msg} {p : ByteArray} : ∀ (n k : Nat) (r : List Msg), k + n ≤ p.size → (∀ i, k ≤ i → i < k + n → ∀ h : i < p.size, 97 ≤ p[i].toNat ∧ p[i].toNat ≤ 122) → ∃ q, rsN s p n k r = some q ∧ (∀ h, chanB s r h = true → chanB s q h = true) ∧ ∀ x, x ∈ q ↔ x ∈ r ∨ ∃ (i : Nat) (h : i < p.size), k ≤ i ∧ i < k + n ∧ s[p[i].toNat - 97]? = some x
  | 0, k, r, _, _ => ⟨r, rfl, fun _ g => g, fun x => ⟨.inl, fun h => h.elim id fun ⟨i, _, h1, h2, _⟩ => by omega⟩⟩
  | n + 1, k, r, hn, hl => by
    have hk : k < p.size := by omega
    have hstep : rsStep s r p[k].toNat = some (match s[p[k].toNat - 97]? with | some m => addM r m | none => r) := by rw [rsStep, if_pos (hl k (Nat.le_refl _) (by omega) hk)]; rfl
    obtain ⟨q, h1, h2, h3⟩ := rsN_ok (s := s) (p := p) n (k + 1) (match s[p[k].toNat - 97]? with | some m => addM r m | none => r) (by omega) (fun i a b h => hl i (by omega) (by omega) h)
    refine ⟨q, by rw [rsN, dif_pos hk, hstep]; exact h1, fun hh g => h2 hh ?_, fun x => ?_⟩
    · cases e : s[p[k].toNat - 97]? with
      | some m => exact chan_deliver g (List.mem_of_getElem? e)
      | none => exact g
    · rw [h3]
      have hm : (x ∈ (match s[p[k].toNat - 97]? with | some m => addM r m | none => r)) ↔ x ∈ r ∨ s[p[k].toNat - 97]? = some x := by
        cases e : s[p[k].toNat - 97]? with
        | some m => simp only [mem_addM, Option.some.injEq]; exact ⟨fun h => h.imp id Eq.symm, fun h => h.imp id Eq.symm⟩
        | none => simp
      rw [hm]
      constructor
      · rintro ((h | h) | ⟨i, h, a, b, c⟩)
        · exact .inl h
        · exact .inr ⟨k, hk, Nat.le_refl _, by omega, h⟩
        · exact .inr ⟨i, h, by omega, by omega, c⟩
      · rintro (h | ⟨i, h, a, b, c⟩)
        · exact .inl (.inl h)
        · by_cases e : k = i
          · subst e; exact .inl (.inr c)
          · exact .inr ⟨i, h, by omega, by omega, c⟩
/-- A plan and the same plan backwards leave one view. -/
theorem rst_law {f n : List App} {s r h : List Msg} {p b : ByteArray} (g : (rstT f n s r h p).2 = true) (hb : b.size = p.size) (hr : ∀ (i : Nat) (h : i < p.size), ∃ h' : p.size - 1 - i < b.size, b[p.size - 1 - i] = p[i]) :
    ∃ q q', rstT f n s r h p = ((f, n, s, q, h), true) ∧ rstT f n s r h b = ((f, n, s, q', h), true) ∧ (viewT f n s q h).2 = true ∧ viewT f n s q' h = viewT f n s q h := by
  have key : endsB f n s r h = true ∧ p.size ≤ 40 ∧ ∃ q, rsN s p p.size 0 r = some q := by
    unfold rstT at g
    split at g
    · rename_i k
      refine ⟨k.1, k.2, ?_⟩
      cases e : rsN s p p.size 0 r with
      | some q => exact ⟨q, rfl⟩
      | none => rw [e] at g; cases g
    · cases g
  obtain ⟨g1, g2, q, hq⟩ := key
  obtain ⟨_, _, p3, _⟩ := ends_parts g1
  have G := ChanG.of p3
  have hl := rsN_let hq
  obtain ⟨q0, e0, c0, m0⟩ := rsN_ok (s := s) (p := p) p.size 0 r (by omega) hl
  rw [hq] at e0
  obtain rfl := Option.some.inj e0
  have hr' : ∀ (i : Nat) (h : i < b.size), ∃ h' : p.size - 1 - i < p.size, b[i] = p[p.size - 1 - i] := fun i h => by
    obtain ⟨h', e⟩ := hr (p.size - 1 - i) (by omega)
    refine ⟨by omega, ?_⟩
    rw [← e]
    congr 1
    omega
  obtain ⟨q', e', c', m'⟩ := rsN_ok (s := s) (p := b) b.size 0 r (by omega) (fun i _ _ h => by
    obtain ⟨h', e⟩ := hr' i h
    rw [e]
    exact hl _ (Nat.zero_le _) (by omega) h')
  have mem : ∀ x, x ∈ q' ↔ x ∈ q := fun x => by
    rw [m', m0]
    refine or_congr Iff.rfl ⟨?_, ?_⟩
    · rintro ⟨i, h, _, _, e⟩
      obtain ⟨h', e2⟩ := hr' i h
      exact ⟨p.size - 1 - i, h', Nat.zero_le _, by omega, by rw [← e2]; exact e⟩
    · rintro ⟨i, h, _, _, e⟩
      obtain ⟨h', e2⟩ := hr i h
      exact ⟨p.size - 1 - i, h', Nat.zero_le _, by omega, by rw [e2]; exact e⟩
  have gq := ends_chan g1 (c0 h p3)
  have gq' := ends_chan g1 (c' h p3)
  obtain ⟨_, _, k3, _⟩ := ends_parts gq
  obtain ⟨_, _, k3', _⟩ := ends_parts gq'
  refine ⟨q, q', by rw [rstT_yes g1 g2, hq], by rw [rstT_yes g1 (by omega), e'], by rw [viewT_yes gq], ?_⟩
  rw [viewT_yes gq, viewT_yes gq', view_congr (ord_congr G.key (ChanG.of k3').rs (ChanG.of k3).rs mem)]
end Go.Proofs.YtjmjilkpckbpeaaGreatDoor

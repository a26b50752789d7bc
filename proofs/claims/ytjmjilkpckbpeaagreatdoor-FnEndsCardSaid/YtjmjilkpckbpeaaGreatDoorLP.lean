/- Several texts of this seat, one behind the other. Ends: what the control room knows, what both ends agree on, what steps leave. Plain Lean: no program walked. No conditions. What TellState leaves. Plain Lean: no program walked. No conditions. -/
import Derived.Test.YtjmjilkpckbpeaaGreatDoorLR
import Derived.Test.YtjmjilkpckbpeaaGreatDoorLD
import Derived.Test.YtjmjilkpckbpeaaGreatDoorLA
namespace Go.Proofs.YtjmjilkpckbpeaaGreatDoor
open Go.RowKit

theorem ends_parts {f n : List App} {s r h : List Msg} (g : endsB f n s r h = true) : fleetB f = true ∧ fleetB n = true ∧ chanB s r h = true ∧ f.length = n.length ∧ (∀ m ∈ s, knownB f m = true) ∧ ∀ i, i < f.length → endAt f n s i = true := by
  unfold endsB at g
  simp only [Bool.and_eq_true, decide_eq_true_eq] at g
  obtain ⟨⟨⟨⟨⟨g1, g2⟩, g3⟩, g4⟩, g5⟩, g6⟩ := g
  exact ⟨g1, g2, g3, g4, List.all_eq_true.1 g5, all_range.1 g6⟩
theorem fleet_app {f : List App} (g : fleetB f = true) {a : App} (ha : a ∈ f) : appB a = true := by
  obtain ⟨i, hi⟩ := List.mem_iff_getElem?.1 ha
  have q := fleet_at g (List.getElem?_eq_some_iff.1 hi).1
  unfold fltAt at q
  rw [hi] at q
  simp only [Bool.and_eq_true] at q
  exact q.1
theorem fleet_len {f : List App} (g : fleetB f = true) : f.length ≤ 12 := by
  unfold fleetB at g
  simp only [Bool.and_eq_true, decide_eq_true_eq] at g
  exact g.2
theorem app_name {a : App} (g : appB a = true) : nameB a.nm = true := by
  unfold appB at g
  simp only [Bool.and_eq_true] at g
  exact g.1.1.1.1
theorem ord_mem {r : List Msg} {nm : ByteArray} : ∀ {k n : Nat} {b : ByteArray}, b ∈ ordL r nm k n → ∃ m ∈ r, m.b = b ∧ m.f = nm := by
  intro k
  induction k with
  | zero => intro n b hb; simp [ordL] at hb
  | succ k ih =>
    intro n b hb
    unfold ordL at hb
    split at hb
    · rename_i m hm
      rcases List.mem_cons.1 hb with rfl | hb
      · exact ⟨m, List.mem_of_find?_eq_some hm, rfl, (keyP_iff.1 (List.find?_some hm)).1⟩
      · exact ih hb
    · simp at hb
theorem ord_parse {f n : List App} {s r h : List Msg} (g : endsB f n s r h = true) {nm b : ByteArray} (hb : b ∈ ordF r nm) : 0 ≤ stF b := by
  obtain ⟨_, _, g3, _, g5, _⟩ := ends_parts g
  obtain ⟨m, hm, rfl, _⟩ := ord_mem hb
  exact (known_iff.1 (g5 m ((ChanG.of g3).rs m hm))).2

/-- An appliance as the control room knows it. -/
def viewA (r : List Msg) (a : App) : App := match (ordF r a.nm).getLast? with
  | some b => withSt a (stF b)
  | none => a
def viewF (f : List App) (r : List Msg) : List App := f.map (viewA r)
def viewT (f n : List App) (s r h : List Msg) : List App × Bool := if endsB f n s r h = true then (viewF f r, true) else ([], false)
theorem viewT_len {f : List App} (n : List App) (s r h : List Msg) (hl : f.length ≤ 1048576) : (viewT f n s r h).1.length ≤ 1048576 := by
  unfold viewT
  split <;> simp [viewF, hl]
theorem viewT_yes {f n : List App} {s r h : List Msg} (g : endsB f n s r h = true) : viewT f n s r h = (viewF f r, true) := if_pos g
theorem viewT_no {f n : List App} {s r h : List Msg} (g : endsB f n s r h = false) : viewT f n s r h = ([], false) := by rw [viewT, g]; rfl
theorem viewA_last {r : List Msg} {a : App} {b : ByteArray} (h : (ordF r a.nm)[(ordF r a.nm).length - 1]? = some b) : viewA r a = withSt a (stF b) := by
  unfold viewA
  rw [List.getLast?_eq_getElem?, h]
theorem viewA_none {r : List Msg} {a : App} (h : (ordF r a.nm).length = 0) : viewA r a = a := by
  unfold viewA
  rw [List.getLast?_eq_getElem?, List.getElem?_eq_none (by omega)]
theorem viewA_nm (r : List Msg) (a : App) : (viewA r a).nm = a.nm := by
  unfold viewA
  split <;> rfl
theorem viewF_len (f : List App) (r : List Msg) : (viewF f r).length = f.length := List.length_map ..
theorem viewF_at {f : List App} {r : List Msg} {k : Nat} {a : App} (h : f[k]? = some a) : (viewF f r)[k]? = some (viewA r a) := by
  unfold viewF
  rw [List.getElem?_map, h]; rfl
/-- The names at which two fleets have one state. -/
def agrL (v n : List App) : List ByteArray := (v.zip n).filterMap fun p => if p.1.st = p.2.st then some p.1.nm else none
def agrT (f n : List App) (s r h : List Msg) : List ByteArray × Bool := if endsB f n s r h = true then (agrL (viewF f r) n, true) else ([], false)
theorem agrL_len (v n : List App) : (agrL v n).length ≤ v.length := by
  unfold agrL
  refine Nat.le_trans (List.length_filterMap_le _ _) ?_
  rw [List.length_zip]
  exact Nat.min_le_left _ _
theorem agrT_len {f : List App} (n : List App) (s r h : List Msg) (hl : f.length ≤ 1048576) : (agrT f n s r h).1.length ≤ 1048576 := by
  unfold agrT
  split
  · exact Nat.le_trans (agrL_len _ _) (by rw [viewF_len]; exact hl)
  · simp
theorem agrT_yes {f n : List App} {s r h : List Msg} (g : endsB f n s r h = true) : agrT f n s r h = (agrL (viewF f r) n, true) := if_pos g
theorem agrT_no {f n : List App} {s r h : List Msg} (g : endsB f n s r h = false) : agrT f n s r h = ([], false) := by rw [agrT, g]; rfl
theorem agrL_snoc {v n : List App} {k : Nat} {a b : App} (ha : v[k]? = some a) (hb : n[k]? = some b) : agrL (v.take (k + 1)) (n.take (k + 1)) = if a.st = b.st then agrL (v.take k) (n.take k) ++ [a.nm] else agrL (v.take k) (n.take k) := by
  have h1 := (List.getElem?_eq_some_iff.1 ha).1
  have h2 := (List.getElem?_eq_some_iff.1 hb).1
  unfold agrL
  rw [take_snoc ha, take_snoc hb, List.zip_append (by rw [List.length_take, List.length_take]; omega), List.filterMap_append]
  by_cases e : a.st = b.st <;> simp [e]
theorem agrL_all {v n : List App} {k : Nat} (h1 : v.length ≤ k) (h2 : n.length ≤ k) : agrL (v.take k) (n.take k) = agrL v n := by
  rw [List.take_of_length_le h1, List.take_of_length_le h2]
/-- How many messages of a name are not in order yet. -/
def behT (f n : List App) (s r h : List Msg) (nm : ByteArray) : Int × Bool :=
  if endsB f n s r h = true ∧ (f.any fun a : App => decide (a.nm.toList = nm.toList)) = true then (((sentS s nm).length : Int) - ((ordF r nm).length : Int), true) else (0, false)
theorem behT_yes {f n : List App} {s r h : List Msg} {nm : ByteArray} (g : endsB f n s r h = true) (k : (f.any fun a : App => decide (a.nm.toList = nm.toList)) = true) : behT f n s r h nm = (((sentS s nm).length : Int) - ((ordF r nm).length : Int), true) := if_pos ⟨g, k⟩
theorem behT_no1 {f n : List App} {s r h : List Msg} {nm : ByteArray} (g : endsB f n s r h = false) : behT f n s r h nm = (0, false) := if_neg (fun e => by rw [g] at e; cases e.1)
theorem behT_no2 {f n : List App} {s r h : List Msg} {nm : ByteArray} (g : (f.any fun a : App => decide (a.nm.toList = nm.toList)) = false) : behT f n s r h nm = (0, false) := if_neg (fun e => by rw [g] at e; cases e.2)
theorem name_known {f : List App} {nm : ByteArray} (g : fleetB f = true) (k : (f.any fun a : App => decide (a.nm.toList = nm.toList)) = true) : nameB nm = true := by
  obtain ⟨a, ha, hn⟩ := List.any_eq_true.1 k
  obtain rfl : a.nm = nm := toList_inj (by simpa using hn)
  exact app_name (fleet_app g ha)
/-- Ends and a bool. -/
abbrev EnT := (List App × List App × List Msg × List Msg × List Msg) × Bool
def enNo : EnT := (([], [], [], [], []), false)
def recT (f n : List App) (s r h : List Msg) (i : Int) : EnT :=
  if endsB f n s r h = true ∧ inB i 0 ((s.length : Int) - 1) = true then (match s[i.toNat]? with | some m => ((f, n, s, addM r m, h), true) | none => enNo) else enNo
def rallT (f n : List App) (s r h : List Msg) : EnT := if endsB f n s r h = true then ((f, n, s, s.foldl addM r, h), true) else enNo
def rsStep (s r : List Msg) (c : Nat) : Option (List Msg) := if 97 ≤ c ∧ c ≤ 122 then some (match s[c - 97]? with | some m => addM r m | none => r) else none
def rsN (s : List Msg) (p : ByteArray) : Nat → Nat → List Msg → Option (List Msg)
  | 0, _, r => some r
  | n + 1, k, r => if hk : k < p.size then (match rsStep s r p[k].toNat with | some q => rsN s p n (k + 1) q | none => none) else some r
def rstT (f n : List App) (s r h : List Msg) (p : ByteArray) : EnT :=
  if endsB f n s r h = true ∧ p.size ≤ 40 then (match rsN s p p.size 0 r with | some q => ((f, n, s, q, h), true) | none => enNo) else enNo
theorem recT_no1 {f n : List App} {s r h : List Msg} {i : Int} (g : endsB f n s r h = false) : recT f n s r h i = enNo := if_neg (fun e => by rw [g] at e; cases e.1)
theorem recT_no2 {f n : List App} {s r h : List Msg} {i : Int} (g : inB i 0 ((s.length : Int) - 1) = false) : recT f n s r h i = enNo := if_neg (fun e => by rw [g] at e; cases e.2)
theorem recT_yes {f n : List App} {s r h : List Msg} {k : Nat} {m : Msg} (g : endsB f n s r h = true) (k1 : inB (k : Int) 0 ((s.length : Int) - 1) = true) (hm : s[k]? = some m) : recT f n s r h k = ((f, n, s, addM r m, h), true) := by
  rw [recT, if_pos ⟨g, k1⟩, Int.toNat_natCast, hm]
theorem rallT_no {f n : List App} {s r h : List Msg} (g : endsB f n s r h = false) : rallT f n s r h = enNo := by rw [rallT, g]; rfl
theorem rallT_yes {f n : List App} {s r h : List Msg} (g : endsB f n s r h = true) : rallT f n s r h = ((f, n, s, s.foldl addM r, h), true) := if_pos g
theorem rall_snoc {s r : List Msg} {k : Nat} {m : Msg} (hm : s[k]? = some m) : (s.take (k + 1)).foldl addM r = addM ((s.take k).foldl addM r) m := by
  rw [take_snoc hm, List.foldl_append]; rfl
theorem rall_len (l r : List Msg) : (l.foldl addM r).length ≤ r.length + l.length := by
  induction l generalizing r with
  | nil => simp
  | cons m l ih =>
    rw [List.foldl_cons, List.length_cons]
    have h1 := ih (addM r m)
    have h2 := addM_len r m
    omega
theorem rstT_no1 {f n : List App} {s r h : List Msg} {p : ByteArray} (g : endsB f n s r h = false) : rstT f n s r h p = enNo := if_neg (fun e => by rw [g] at e; cases e.1)
theorem rstT_no2 {f n : List App} {s r h : List Msg} {p : ByteArray} (g : ¬ p.size ≤ 40) : rstT f n s r h p = enNo := if_neg (fun e => g e.2)
theorem rstT_yes {f n : List App} {s r h : List Msg} {p : ByteArray} (g : endsB f n s r h = true) (k : p.size ≤ 40) : rstT f n s r h p = (match rsN s p p.size 0 r with | some q => ((f, n, s, q, h), true) | none => enNo) := if_pos ⟨g, k⟩
theorem rsN_step {s : List Msg} {p : ByteArray} {k : Nat} {r : List Msg} (hk : k < p.size) : rsN s p (p.size - k) k r = (match rsStep s r p[k].toNat with | some q => rsN s p (p.size - (k + 1)) (k + 1) q | none => none) := by
  obtain ⟨n, hn⟩ : ∃ n, p.size - k = n + 1 := ⟨p.size - k - 1, by omega⟩
  rw [hn, rsN, dif_pos hk, show p.size - (k + 1) = n by omega]
theorem rs_a {s r : List Msg} {c j : Nat} {m : Msg} (h1 : 97 ≤ c ∧ c ≤ 122) (hj : c = 97 + j) (hm : s[j]? = some m) : rsStep s r c = some (addM r m) := by rw [rsStep, if_pos h1, show c - 97 = j by omega, hm]
theorem rs_a0 {s r : List Msg} {c j : Nat} (h1 : 97 ≤ c ∧ c ≤ 122) (hj : c = 97 + j) (hm : s.length ≤ j) : rsStep s r c = some r := by rw [rsStep, if_pos h1, show c - 97 = j by omega, List.getElem?_eq_none hm]
theorem rs_no {s r : List Msg} {c : Nat} (h1 : ¬ (97 ≤ c ∧ c ≤ 122)) : rsStep s r c = none := by rw [rsStep, if_neg h1]
theorem rsN_len {s : List Msg} {p : ByteArray} : ∀ {n k : Nat} {r q : List Msg}, rsN s p n k r = some q → q.length ≤ r.length + n
  | 0, _, r, q, e => by rw [rsN] at e; injection e with e; subst e; exact Nat.le_refl _
  | n + 1, k, r, q, e => by
    rw [rsN] at e
    split at e
    · split at e
      · rename_i q' hq
        have h2 := rsN_len e
        unfold rsStep at hq
        split at hq
        · injection hq with hq
          subst hq
          split at h2
          · rename_i m _
            have := addM_len r m
            omega
          · omega
        · cases hq
      · cases e
    · injection e with e; subst e; omega
theorem enNo_len : enNo.1.1.length ≤ 1048576 ∧ enNo.1.2.1.length ≤ 1048576 ∧ enNo.1.2.2.1.length ≤ 1048576 ∧ enNo.1.2.2.2.1.length ≤ 1048576 ∧ enNo.1.2.2.2.2.length ≤ 1048576 := by simp [enNo]
section
variable {f n : List App} {s r h : List Msg} (hf : f.length ≤ 1048576)
include hf
theorem recT_len (i : Int) : (recT f n s r h i).1.1.length ≤ 1048576 ∧ (recT f n s r h i).1.2.1.length ≤ 1048576 ∧ (recT f n s r h i).1.2.2.1.length ≤ 1048576 ∧ (recT f n s r h i).1.2.2.2.1.length ≤ 1048576 ∧ (recT f n s r h i).1.2.2.2.2.length ≤ 1048576 := by
  unfold recT
  split
  · rename_i g
    obtain ⟨_, _, g3, _⟩ := ends_parts g.1
    have := chan_len g3
    split
    · rename_i m _
      have := addM_len r m
      dsimp only
      omega
    · exact enNo_len
  · exact enNo_len
theorem rallT_len : (rallT f n s r h).1.1.length ≤ 1048576 ∧ (rallT f n s r h).1.2.1.length ≤ 1048576 ∧ (rallT f n s r h).1.2.2.1.length ≤ 1048576 ∧ (rallT f n s r h).1.2.2.2.1.length ≤ 1048576 ∧ (rallT f n s r h).1.2.2.2.2.length ≤ 1048576 := by
  unfold rallT
  split
  · rename_i g
    obtain ⟨_, _, g3, _⟩ := ends_parts g
    have := chan_len g3
    have := rall_len s r
    dsimp only
    omega
  · exact enNo_len
theorem rstT_len (p : ByteArray) : (rstT f n s r h p).1.1.length ≤ 1048576 ∧ (rstT f n s r h p).1.2.1.length ≤ 1048576 ∧ (rstT f n s r h p).1.2.2.1.length ≤ 1048576 ∧ (rstT f n s r h p).1.2.2.2.1.length ≤ 1048576 ∧ (rstT f n s r h p).1.2.2.2.2.length ≤ 1048576 := by
  unfold rstT
  split
  · rename_i g
    obtain ⟨_, _, g3, _⟩ := ends_parts g.1
    have := chan_len g3
    split
    · rename_i q hq
      have := rsN_len hq
      dsimp only
      omega
    · exact enNo_len
  · exact enNo_len
end
end Go.Proofs.YtjmjilkpckbpeaaGreatDoor
namespace Go.Proofs.YtjmjilkpckbpeaaGreatDoor
open Go.RowKit

/-- The index of the appliance with a name. -/
def chgI (n : List App) (nm : ByteArray) : Int := idxG (fun a : App => decide (a.nm.toList = nm.toList)) n 0
def chgT (n : List App) (nm : ByteArray) (st : Int) : List App × Bool :=
  if fleetB n = true ∧ 0 ≤ chgI n nm ∧ stOk st = true then (match n[(chgI n nm).toNat]? with | some a => (if mayB a.st st = true then (n.set (chgI n nm).toNat (withSt a st), true) else ([], false)) | none => ([], false)) else ([], false)
theorem chgT_no1 {n : List App} {nm : ByteArray} {st : Int} (g : fleetB n = false) : chgT n nm st = ([], false) := if_neg (fun e => by rw [g] at e; cases e.1)
theorem chgT_no2 {n : List App} {nm : ByteArray} {st : Int} (g : chgI n nm < 0) : chgT n nm st = ([], false) := if_neg (fun e => by omega)
theorem chgT_no3 {n : List App} {nm : ByteArray} {st : Int} (g : stOk st = false) : chgT n nm st = ([], false) := if_neg (fun e => by rw [g] at e; cases e.2.2)
theorem chgT_no4 {n : List App} {nm : ByteArray} {st : Int} {k : Nat} {a : App} (e : chgI n nm = k) (ha : n[k]? = some a) (g : mayB a.st st = false) : chgT n nm st = ([], false) := by
  unfold chgT
  split
  · rw [e, Int.toNat_natCast, ha]; simp [g]
  · rfl
theorem chgT_yes {n : List App} {nm : ByteArray} {st : Int} {k : Nat} {a : App} (h1 : fleetB n = true) (e : chgI n nm = k) (h2 : stOk st = true) (ha : n[k]? = some a) (g : mayB a.st st = true) : chgT n nm st = (n.set k (withSt a st), true) := by
  rw [chgT, if_pos ⟨h1, by omega, h2⟩, e, Int.toNat_natCast, ha]
  simp only [g, if_true]
theorem chgT_len (n : List App) (nm : ByteArray) (st : Int) : (chgT n nm st).1.length ≤ n.length := by
  unfold chgT
  split
  · split
    · split <;> simp
    · simp
  · simp
theorem chgT_snd {n : List App} {nm : ByteArray} {st : Int} (h : (chgT n nm st).2 = true) : fleetB n = true ∧ 0 ≤ chgI n nm ∧ stOk st = true := by
  unfold chgT at h
  split at h
  · assumption
  · cases h
theorem chgI_any (n : List App) (nm : ByteArray) : decide (0 ≤ chgI n nm) = n.any (fun a : App => decide (a.nm.toList = nm.toList)) := idxG_any _ n
theorem chg_name {n : List App} {nm : ByteArray} {st : Int} (h : (chgT n nm st).2 = true) : nameB nm = true := by
  obtain ⟨h1, h2, _⟩ := chgT_snd h
  exact name_known h1 (by rw [← chgI_any]; exact decide_eq_true h2)
theorem body_st {st : Int} (h : stOk st = true) : bodyB (stT st) = true := by
  have := stOk_in h
  rcases (by omega : st = 0 ∨ st = 1 ∨ st = 2 ∨ st = 3 ∨ st = 4 ∨ st = 5) with rfl | rfl | rfl | rfl | rfl | rfl <;> decide +kernel
theorem size_st {st : Int} (h : stOk st = true) : (stT st).size ≤ 1048576 := by
  have := stOk_in h
  rcases (by omega : st = 0 ∨ st = 1 ∨ st = 2 ∨ st = 3 ∨ st = 4 ∨ st = 5) with rfl | rfl | rfl | rfl | rfl | rfl <;> decide +kernel
def telT (f n : List App) (s r h : List Msg) (nm : ByteArray) (st : Int) : EnT :=
  if endsB f n s r h = true ∧ (chgT n nm st).2 = true ∧ (sndT s r h nm (stT st)).2 = true then ((f, (chgT n nm st).1, (sndT s r h nm (stT st)).1.1, (sndT s r h nm (stT st)).1.2.1, (sndT s r h nm (stT st)).1.2.2), true) else enNo
theorem telT_no1 {f n : List App} {s r h : List Msg} {nm : ByteArray} {st : Int} (g : endsB f n s r h = false) : telT f n s r h nm st = enNo := if_neg (fun e => by rw [g] at e; cases e.1)
theorem telT_no2 {f n : List App} {s r h : List Msg} {nm : ByteArray} {st : Int} (g : (chgT n nm st).2 = false) : telT f n s r h nm st = enNo := if_neg (fun e => by rw [g] at e; cases e.2.1)
theorem telT_no3 {f n : List App} {s r h : List Msg} {nm : ByteArray} {st : Int} (g : (sndT s r h nm (stT st)).2 = false) : telT f n s r h nm st = enNo := if_neg (fun e => by rw [g] at e; cases e.2.2)
theorem telT_yes {f n : List App} {s r h : List Msg} {nm : ByteArray} {st : Int} (g1 : endsB f n s r h = true) (g2 : (chgT n nm st).2 = true) (g3 : (sndT s r h nm (stT st)).2 = true) : telT f n s r h nm st = ((f, (chgT n nm st).1, (sndT s r h nm (stT st)).1.1, (sndT s r h nm (stT st)).1.2.1, (sndT s r h nm (stT st)).1.2.2), true) := if_pos ⟨g1, g2, g3⟩
theorem tel_snd {f n : List App} {s r h : List Msg} {nm : ByteArray} {st : Int} (g1 : endsB f n s r h = true) (g2 : (chgT n nm st).2 = true) : sndU s r h nm (stT st) = sndT s r h nm (stT st) := by
  obtain ⟨_, _, p3, _⟩ := ends_parts g1
  exact sndT_U p3 (chg_name g2) (body_st (chgT_snd g2).2.2)
theorem telT_len {f n : List App} {s r h : List Msg} (hf : f.length ≤ 1048576) (nm : ByteArray) (st : Int) : (telT f n s r h nm st).1.1.length ≤ 1048576 ∧ (telT f n s r h nm st).1.2.1.length ≤ 1048576 ∧ (telT f n s r h nm st).1.2.2.1.length ≤ 1048576 ∧ (telT f n s r h nm st).1.2.2.2.1.length ≤ 1048576 ∧ (telT f n s r h nm st).1.2.2.2.2.length ≤ 1048576 := by
  unfold telT
  split
  · rename_i g
    obtain ⟨_, p2, p3, _⟩ := ends_parts g.1
    obtain ⟨k1, k2, k3⟩ := chan_len p3
    have h1 := chgT_len n nm st
    have h2 := fleet_len p2
    obtain ⟨h3, h4, h5⟩ := sndT_len (f := nm) (b := stT st) (show s.length ≤ 1048576 by omega) (show r.length ≤ 1048576 by omega) (show h.length ≤ 1048576 by omega)
    exact ⟨hf, Nat.le_trans h1 (by omega), h3, h4, h5⟩
  · exact enNo_len
end Go.Proofs.YtjmjilkpckbpeaaGreatDoor

/- Ends: which states the messages tell, in plain Lean: no program walked. No conditions. -/
import Derived.Test.YtianabfehonliaaDoorFlt
import Derived.Test.YtianabfehonliaaDoorPst
namespace Go.Proofs.YtianabfehonliaaDoor
open Go.RowKit

/-- The states that may follow a state. -/
def nextL (a : Int) : List Int := if a = 0 then [1, 5] else if a = 1 then [0, 2] else if a = 2 then [3, 4] else if a = 3 then [4] else if a = 4 then [0, 1, 5] else [0]
def mayB (a b : Int) : Bool := decide (b ∈ nextL a)
/-- The state that a text spells, or -1. -/
def stF (s : ByteArray) : Int := match (List.range 6).find? (fun k : Nat => decide (s.toList = (stT k).toList)) with
  | some k => k
  | none => -1
theorem stF_spells (s : ByteArray) : Spells s (stF s) := by
  unfold stF
  cases h : (List.range 6).find? (fun k : Nat => decide (s.toList = (stT k).toList)) with
  | some k =>
    have h1 := List.find?_some h
    have h2 := List.mem_range.1 (List.mem_of_find?_eq_some h)
    exact .inr ⟨by show (0:Int) ≤ (k : Int) ∧ (k : Int) ≤ 5; omega, by simpa using h1⟩
  | none =>
    refine .inl ⟨rfl, fun n hn he => ?_⟩
    have := List.find?_eq_none.1 h n.toNat (List.mem_range.2 (by omega))
    rw [show ((n.toNat : Nat) : Int) = n by omega] at this
    simp [he] at this
theorem stF_of {s : ByteArray} {v : Int} (h : Spells s v) : v = stF s := h.uniq (stF_spells s)
theorem stF_in (s : ByteArray) : stF s = -1 ∨ (0 ≤ stF s ∧ stF s ≤ 5) := by
  rcases stF_spells s with ⟨h, _⟩ | ⟨h, _⟩
  · exact .inl h
  · exact .inr h
/-- The states that the messages of a name tell. -/
def sentS (s : List Msg) (nm : ByteArray) : List Int := (s.filter fun m => decide (m.f.toList = nm.toList)).map fun m => stF m.b
def chainF (st : Int) : List Int → Option Int
  | [] => some st
  | x :: r => if mayB st x = true then chainF x r else none
def withSt (a : App) (st : Int) : App := { a with st := st }
/-- The i-th appliance at both ends, as the reference tests it. -/
def endAt (f n : List App) (s : List Msg) (i : Nat) : Bool := match f[i]?, n[i]? with
  | some a, some b => (match chainF a.st (sentS s a.nm) with | some x => App.eqB (withSt a x) b | none => false)
  | _, _ => true
def knownB (f : List App) (m : Msg) : Bool := (f.any fun a => decide (a.nm.toList = m.f.toList)) && decide (0 ≤ stF m.b)
def endsB (f n : List App) (s r h : List Msg) : Bool := fleetB f && fleetB n && chanB s r h && decide (f.length = n.length) && s.all (knownB f) && (List.range f.length).all (endAt f n s)

/-- The map of the states, as the program keeps it. -/
abbrev StM := ByteArray → Option Int
def updM (M : StM) (k : ByteArray) (v : Int) : StM := fun x => if x = k then some v else M x
def foldM (M : StM) : List Msg → Option StM
  | [] => some M
  | m :: s => match M m.f with
    | some b => if 0 ≤ stF m.b ∧ mayB b (stF m.b) = true then foldM (updM M m.f (stF m.b)) s else none
    | none => none
theorem sentS_cons (m : Msg) (s : List Msg) (nm : ByteArray) : sentS (m :: s) nm = if m.f = nm then stF m.b :: sentS s nm else sentS s nm := by
  unfold sentS
  by_cases h : m.f = nm
  · simp [h]
  · have : ¬ m.f.toList = nm.toList := fun e => h (toList_inj e)
    simp [h, this]
theorem foldM_some : ∀ {s : List Msg} {M M' : StM}, foldM M s = some M' → (∀ m ∈ s, (M m.f).isSome = true ∧ 0 ≤ stF m.b) ∧ (∀ nm st, M nm = some st → ∃ st', M' nm = some st' ∧ chainF st (sentS s nm) = some st') ∧ ∀ nm, M nm = none → M' nm = none
  | [], M, M', h => by
    simp only [foldM, Option.some.injEq] at h
    subst h
    exact ⟨by simp, fun nm st hs => ⟨st, hs, rfl⟩, fun nm hn => hn⟩
  | m :: s, M, M', h => by
    rw [foldM] at h
    cases hm : M m.f with
    | none => rw [hm] at h; cases h
    | some b =>
      rw [hm] at h
      simp only at h
      split at h
      · rename_i hc
        obtain ⟨h1, h2, h3⟩ := foldM_some h
        have hd : ∀ x, M x = none → updM M m.f (stF m.b) x = none := by
          intro x hx
          unfold updM
          rw [if_neg (by rintro rfl; rw [hm] at hx; cases hx), hx]
        refine ⟨?_, ?_, fun nm hn => h3 nm (hd nm hn)⟩
        · intro x hx
          rcases List.mem_cons.1 hx with rfl | hx
          · exact ⟨by rw [hm]; rfl, hc.1⟩
          · refine ⟨?_, (h1 x hx).2⟩
            cases e : M x.f with
            | some => rfl
            | none => have := (h1 x hx).1; rw [hd _ e] at this; cases this
        · intro nm st hs
          rw [sentS_cons]
          by_cases hn : m.f = nm
          · subst hn
            rw [hm] at hs
            obtain rfl := Option.some.inj hs
            rw [if_pos rfl, chainF, if_pos hc.2]
            exact h2 m.f (stF m.b) (by simp [updM])
          · rw [if_neg hn]
            exact h2 nm st (by unfold updM; rw [if_neg (fun e => hn e.symm)]; exact hs)
      · cases h
theorem foldM_none : ∀ {s : List Msg} {M : StM}, foldM M s = none → (∃ m ∈ s, M m.f = none ∨ stF m.b < 0) ∨ ∃ nm st, M nm = some st ∧ chainF st (sentS s nm) = none
  | [], M, h => by cases h
  | m :: s, M, h => by
    rw [foldM] at h
    cases hm : M m.f with
    | none => exact .inl ⟨m, by simp, .inl hm⟩
    | some b =>
      rw [hm] at h
      simp only at h
      split at h
      · rename_i hc
        rcases foldM_none h with ⟨x, hx, hb⟩ | ⟨nm, st, hs, hch⟩
        · refine .inl ⟨x, List.mem_cons_of_mem _ hx, ?_⟩
          rcases hb with hb | hb
          · unfold updM at hb
            split at hb
            · cases hb
            · exact .inl hb
          · exact .inr hb
        · by_cases hn : nm = m.f
          · subst hn
            simp only [updM, if_true, Option.some.injEq] at hs
            subst hs
            exact .inr ⟨m.f, b, hm, by rw [sentS_cons, if_pos rfl, chainF, if_pos hc.2]; exact hch⟩
          · unfold updM at hs
            rw [if_neg hn] at hs
            exact .inr ⟨nm, st, hs, by rw [sentS_cons, if_neg (fun e => hn e.symm)]; exact hch⟩
      · rename_i hc
        by_cases h0 : 0 ≤ stF m.b
        · refine .inr ⟨m.f, b, hm, ?_⟩
          rw [sentS_cons, if_pos rfl, chainF, if_neg (fun e => hc ⟨h0, e⟩)]
        · exact .inl ⟨m, by simp, .inr (by omega)⟩
theorem bless_cons (a b : UInt8) (x y : List UInt8) : Op.bytesLess (a :: x) (b :: y) = if a.toNat < b.toNat then true else if b.toNat < a.toNat then false else Op.bytesLess x y := by
  simp only [Op.bytesLess, UInt8.lt_iff_toNat_lt]
  by_cases h1 : a.toNat < b.toNat
  · rw [if_pos h1]; simp [h1]
  · rw [if_neg h1]
    by_cases h2 : b.toNat < a.toNat
    · rw [if_pos h2]
      have : a ≠ b := by rintro rfl; omega
      simp [h1, this]
    · rw [if_neg h2]
      have : a = b := UInt8.toNat_inj.1 (by omega)
      subst this
      simp
theorem bless_irr : ∀ x : List UInt8, Op.bytesLess x x = false
  | [] => rfl
  | a :: x => by rw [bless_cons, if_neg (Nat.lt_irrefl _), if_neg (Nat.lt_irrefl _), bless_irr x]
theorem bless_trans : ∀ {x y z : List UInt8}, Op.bytesLess x y = true → Op.bytesLess y z = true → Op.bytesLess x z = true
  | [], [], z, h, _ => by cases h
  | [], b :: y, [], _, h => by cases h
  | [], b :: y, c :: z, _, _ => rfl
  | a :: x, [], z, h, _ => by cases h
  | a :: x, b :: y, [], _, h => by cases h
  | a :: x, b :: y, c :: z, h, k => by
    rw [bless_cons] at h k ⊢
    by_cases h1 : a.toNat < b.toNat
    · by_cases k1 : b.toNat < c.toNat
      · rw [if_pos (by omega)]
      · rw [if_neg k1] at k
        by_cases k2 : c.toNat < b.toNat
        · rw [if_pos k2] at k; cases k
        · rw [if_pos (by omega)]
    · rw [if_neg h1] at h
      by_cases h2 : b.toNat < a.toNat
      · rw [if_pos h2] at h; cases h
      · rw [if_neg h2] at h
        by_cases k1 : b.toNat < c.toNat
        · rw [if_pos (by omega)]
        · rw [if_neg k1] at k
          by_cases k2 : c.toNat < b.toNat
          · rw [if_pos k2] at k; cases k
          · rw [if_neg k2] at k
            rw [if_neg (by omega), if_neg (by omega)]
            exact bless_trans h k
theorem fleet_at {l : List App} (h : fleetB l = true) {i : Nat} (hi : i < l.length) : fltAt l i = true := by
  unfold fleetB at h
  rw [Bool.and_eq_true] at h
  exact List.all_eq_true.1 h.1 i (List.mem_range.2 hi)
theorem fleet_lt {l : List App} (h : fleetB l = true) : ∀ {j i : Nat} {a b : App}, i < j → l[i]? = some a → l[j]? = some b → Op.bytesLess a.nm.toList b.nm.toList = true
  | 0, i, a, b, hij, _, _ => by omega
  | j + 1, i, a, b, hij, ha, hb => by
    have hj : j + 1 < l.length := (List.getElem?_eq_some_iff.1 hb).1
    have hy : l[j]? = some l[j] := List.getElem?_eq_getElem (by omega)
    have := fleet_at h hj
    rw [fltAt_s hb hy, Bool.and_eq_true] at this
    by_cases e : i = j
    · subst e
      rw [hy] at ha
      obtain rfl := Option.some.inj ha
      exact this.2
    · exact bless_trans (fleet_lt h (by omega) ha hy) this.2
theorem fleet_inj {l : List App} (h : fleetB l = true) {i j : Nat} {a b : App} (ha : l[i]? = some a) (hb : l[j]? = some b) (e : a.nm = b.nm) : i = j := by
  rcases Nat.lt_trichotomy i j with hij | hij | hij
  · have := fleet_lt h hij ha hb; rw [e, bless_irr] at this; cases this
  · exact hij
  · have := fleet_lt h hij hb ha; rw [e, bless_irr] at this; cases this
/-- The states at first. -/
def mapM (l : List App) : StM := fun x => (l.find? fun a : App => decide (a.nm = x)).map fun a : App => a.st
theorem mapM_at {l : List App} (h : fleetB l = true) {i : Nat} {a : App} (ha : l[i]? = some a) : mapM l a.nm = some a.st := by
  unfold mapM
  cases e : l.find? fun b => decide (b.nm = a.nm) with
  | none =>
    have := List.find?_eq_none.1 e a (List.mem_of_getElem? ha)
    simp at this
  | some b =>
    have h1 : b.nm = a.nm := by simpa using List.find?_some e
    obtain ⟨j, hj⟩ := List.mem_iff_getElem?.1 (List.mem_of_find?_eq_some e)
    have := fleet_inj h hj ha h1
    subst this
    rw [ha] at hj
    obtain rfl := Option.some.inj hj
    rfl
theorem mapM_some {l : List App} {x : ByteArray} {v : Int} (e : mapM l x = some v) : ∃ (i : Nat) (a : App), l[i]? = some a ∧ a.nm = x ∧ a.st = v := by
  unfold mapM at e
  cases h : l.find? fun b => decide (b.nm = x) with
  | none => rw [h] at e; cases e
  | some b =>
    rw [h] at e
    obtain ⟨i, hi⟩ := List.mem_iff_getElem?.1 (List.mem_of_find?_eq_some h)
    exact ⟨i, b, hi, by simpa using List.find?_some h, by simpa using e⟩
/-- The i-th appliance at both ends, as the program tests it first. -/
def fldAt (f n : List App) (i : Nat) : Bool := match f[i]?, n[i]? with
  | some a, some b => App.eqB (withSt a b.st) b
  | _, _ => true
def finB (M : StM) (n : List App) : Bool := n.all fun b => decide ((M b.nm).getD 0 = b.st)
def finI (f n : List App) (s : List Msg) : Bool := match foldM (mapM f) s with
  | some M => finB M n
  | none => false
def endsI (f n : List App) (s r h : List Msg) : Bool := fleetB f && fleetB n && chanB s r h && decide (f.length = n.length) && (List.range f.length).all (fldAt f n) && finI f n s
theorem all_range {k : Nat} {p : Nat → Bool} : (List.range k).all p = true ↔ ∀ i, i < k → p i = true := by
  rw [List.all_eq_true]
  exact ⟨fun h i hi => h i (List.mem_range.2 hi), fun h i hi => h i (List.mem_range.1 hi)⟩
theorem known_iff {f : List App} {m : Msg} : knownB f m = true ↔ (mapM f m.f).isSome = true ∧ 0 ≤ stF m.b := by
  unfold knownB
  rw [Bool.and_eq_true, List.any_eq_true]
  constructor
  · rintro ⟨⟨a, ha, hn⟩, h⟩
    refine ⟨?_, by simpa using h⟩
    unfold mapM
    cases e : f.find? fun b => decide (b.nm = m.f) with
    | some => rfl
    | none =>
      have := List.find?_eq_none.1 e a ha
      have hn' : a.nm = m.f := toList_inj (by simpa using hn)
      simp [hn'] at this
  · rintro ⟨h1, h2⟩
    refine ⟨?_, by simpa using h2⟩
    cases e : mapM f m.f with
    | none => rw [e] at h1; cases h1
    | some v =>
      obtain ⟨i, a, ha, hn, _⟩ := mapM_some e
      exact ⟨a, List.mem_of_getElem? ha, by simp [hn]⟩
theorem ends_eq (f n : List App) (s r h : List Msg) : endsI f n s r h = endsB f n s r h := by
  unfold endsI endsB
  by_cases g : (fleetB f && fleetB n && chanB s r h && decide (f.length = n.length)) = true
  rotate_left
  · have g : (fleetB f && fleetB n && chanB s r h && decide (f.length = n.length)) = false := by simpa using g
    rw [g]; rfl
  rw [g, Bool.true_and, Bool.true_and]
  simp only [Bool.and_eq_true, decide_eq_true_eq] at g
  obtain ⟨⟨⟨gf, gn⟩, _⟩, gl⟩ := g
  rw [Bool.eq_iff_iff, Bool.and_eq_true, Bool.and_eq_true, all_range, all_range, List.all_eq_true]
  have two : ∀ i, i < f.length → ∃ a b : App, f[i]? = some a ∧ n[i]? = some b := fun i hi => ⟨f[i], n[i]'(by omega), List.getElem?_eq_getElem hi, List.getElem?_eq_getElem (by omega)⟩
  constructor
  · rintro ⟨h1, h2⟩
    unfold finI at h2
    cases e : foldM (mapM f) s with
    | none => rw [e] at h2; cases h2
    | some M =>
      rw [e] at h2
      obtain ⟨q1, q2, _⟩ := foldM_some e
      refine ⟨fun m hm => known_iff.2 (q1 m hm), fun i hi => ?_⟩
      obtain ⟨a, b, ha, hb⟩ := two i hi
      have hE := h1 i hi
      simp only [fldAt, ha, hb] at hE
      have hE' := App.eqB_iff.1 hE
      obtain ⟨st', k1, k2⟩ := q2 a.nm a.st (mapM_at gf ha)
      have hbn : b.nm = a.nm := by rw [← hE']; rfl
      have h3 := List.all_eq_true.1 h2 b (List.mem_of_getElem? hb)
      rw [hbn, k1] at h3
      have h4 : st' = b.st := by simpa using h3
      simp only [endAt, ha, hb, k2, h4]
      exact hE
  · rintro ⟨h1, h2⟩
    have hA : ∀ (i : Nat) (a b : App), f[i]? = some a → n[i]? = some b → chainF a.st (sentS s a.nm) = some b.st ∧ withSt a b.st = b := by
      intro i a b ha hb
      have := h2 i (List.getElem?_eq_some_iff.1 ha).1
      simp only [endAt, ha, hb] at this
      cases e : chainF a.st (sentS s a.nm) with
      | none => rw [e] at this; cases this
      | some x =>
        rw [e] at this
        have hx := App.eqB_iff.1 this
        have : b.st = x := by rw [← hx]; rfl
        rw [this]
        exact ⟨rfl, hx⟩
    refine ⟨fun i hi => ?_, ?_⟩
    · obtain ⟨a, b, ha, hb⟩ := two i hi
      simp only [fldAt, ha, hb]
      exact App.eqB_iff.2 (hA i a b ha hb).2
    · unfold finI
      cases e : foldM (mapM f) s with
      | none =>
        rcases foldM_none e with ⟨m, hm, hq⟩ | ⟨nm, st, hs, hc⟩
        · obtain ⟨k1, k2⟩ := known_iff.1 (h1 m hm)
          rcases hq with hq | hq
          · rw [hq] at k1; cases k1
          · omega
        · obtain ⟨i, a, ha, rfl, rfl⟩ := mapM_some hs
          obtain ⟨a', b, ha', hb⟩ := two i (List.getElem?_eq_some_iff.1 ha).1
          rw [ha] at ha'
          obtain rfl := Option.some.inj ha'
          rw [(hA i a b ha hb).1] at hc
          cases hc
      | some M =>
        obtain ⟨_, q2, _⟩ := foldM_some e
        refine List.all_eq_true.2 fun b hb => ?_
        obtain ⟨i, hi⟩ := List.mem_iff_getElem?.1 hb
        have hl : i < f.length := by have := (List.getElem?_eq_some_iff.1 hi).1; omega
        obtain ⟨a, b', ha, hb'⟩ := two i hl
        rw [hi] at hb'
        obtain rfl := Option.some.inj hb'
        obtain ⟨c1, c2⟩ := hA i a b ha hi
        obtain ⟨st', k1, k2⟩ := q2 a.nm a.st (mapM_at gf ha)
        rw [c1] at k2
        obtain rfl := Option.some.inj k2
        have hbn : b.nm = a.nm := by rw [← c2]; rfl
        rw [hbn, k1]
        simp
end Go.Proofs.YtianabfehonliaaDoor

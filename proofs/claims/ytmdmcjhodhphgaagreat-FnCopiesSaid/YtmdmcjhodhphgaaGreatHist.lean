/- Histories of two logs, in plain words: the order of entries, merging, and that both tests of a history say one thing. No program. -/
import Derived.Test.YtmdmcjhodhphgaaGreatCopy
import Derived.Laws.Strings
namespace Go.Proofs.YtmdmcjhodhphgaaGreat
open Go.RowKit

/-- x comes before y: by minute, then room, then number. -/
def befB (x y : Ent) : Bool := if x.m = y.m then (if x.r = y.r then decide (x.n < y.n) else decide (x.r < y.r)) else decide (x.m < y.m)
theorem befB_iff {x y : Ent} : befB x y = true ↔ x.m < y.m ∨ (x.m = y.m ∧ (x.r < y.r ∨ (x.r = y.r ∧ x.n < y.n))) := by
  unfold befB
  by_cases h1 : x.m = y.m
  · rw [if_pos h1]
    by_cases h2 : x.r = y.r
    · rw [if_pos h2]; simp only [decide_eq_true_eq]; omega
    · rw [if_neg h2]; simp only [decide_eq_true_eq]; omega
  · rw [if_neg h1]; simp only [decide_eq_true_eq]; omega
theorem befB_no {x y : Ent} : befB x y = false ↔ y.m < x.m ∨ (x.m = y.m ∧ (y.r < x.r ∨ (x.r = y.r ∧ y.n ≤ x.n))) := by
  rw [Bool.eq_false_iff, ne_eq, befB_iff]; omega
theorem le_trans' {x y z : Ent} (h1 : befB y x = false) (h2 : befB z y = false) : befB z x = false := by
  rw [befB_no] at *; omega
theorem bef_le {x y : Ent} (h : befB x y = true) : befB y x = false := by rw [befB_no]; rw [befB_iff] at h; omega
theorem bef_rooms {x y : Ent} (h : befB y x = false) (hr : x.r ≠ y.r) : befB x y = true := by rw [befB_iff]; rw [befB_no] at h; omega

def adjB : List Ent → Bool
  | x :: y :: l => !befB y x && adjB (y :: l)
  | _ => true
abbrev srt (l : List Ent) : Prop := l.Pairwise fun x y => befB y x = false
theorem adj_srt : ∀ {l : List Ent}, adjB l = true ↔ srt l
  | [] => by simp [adjB, srt]
  | [x] => by simp [adjB, srt]
  | x :: y :: l => by
    rw [adjB, Bool.and_eq_true, adj_srt (l := y :: l)]
    simp only [srt, List.pairwise_cons, Bool.not_eq_true', List.mem_cons]
    constructor
    · rintro ⟨h1, h2, h3⟩
      refine ⟨fun z hz => ?_, h2, h3⟩
      rcases hz with rfl | hz
      · exact h1
      · exact le_trans' h1 (h2 z hz)
    · rintro ⟨h1, h2, h3⟩
      exact ⟨h1 y (.inl rfl), h2, h3⟩
theorem adj_step {h : List Ent} {i : Nat} {x y : Ent} (hx : h[i]? = some x) (hy : h[i + 1]? = some y) : adjB (h.drop i) = (!befB y x && adjB (h.drop (i + 1))) := by
  obtain ⟨h1, rfl⟩ := List.getElem?_eq_some_iff.1 hx
  obtain ⟨h2, rfl⟩ := List.getElem?_eq_some_iff.1 hy
  rw [List.drop_eq_getElem_cons h1, List.drop_eq_getElem_cons h2]
  rfl
theorem adj_last {h : List Ent} {i : Nat} (hi : h.length ≤ i + 1) : adjB (h.drop i) = true := by
  have hd : (h.drop i).length ≤ 1 := by simp; omega
  cases hh : h.drop i with
  | nil => rfl
  | cons a l =>
    cases l with
    | nil => rfl
    | cons b l => rw [hh] at hd; simp at hd
theorem adj_of : ∀ {l : List Ent}, (∀ i x y, l[i]? = some x → l[i + 1]? = some y → befB y x = false) → adjB l = true
  | [], _ => rfl
  | [_], _ => rfl
  | x :: y :: l, h => by
    rw [adjB, h 0 x y rfl rfl, adj_of (l := y :: l) fun i a b ha hb => h (i + 1) a b (by simpa using ha) (by simpa using hb)]
    rfl

def mrg : List Ent → List Ent → List Ent
  | [], b => b
  | x :: a, [] => x :: a
  | x :: a, y :: b => if befB x y = true then x :: mrg a (y :: b) else y :: mrg (x :: a) b
termination_by a b => a.length + b.length
theorem mrg_nil1 (b : List Ent) : mrg [] b = b := by rw [mrg]
theorem mrg_nil2 (a : List Ent) : mrg a [] = a := by cases a <;> rw [mrg]
theorem mrg_mem {z : Ent} : ∀ (n : Nat) (a b : List Ent), a.length + b.length ≤ n → (z ∈ mrg a b ↔ z ∈ a ∨ z ∈ b)
  | 0, a, b, h => by
    have ha : a = [] := List.eq_nil_of_length_eq_zero (by omega)
    have hb : b = [] := List.eq_nil_of_length_eq_zero (by omega)
    subst ha hb; simp [mrg_nil1]
  | n + 1, [], b, h => by simp [mrg_nil1]
  | n + 1, x :: a, [], h => by simp [mrg_nil2]
  | n + 1, x :: a, y :: b, h => by
    simp only [List.length_cons] at h
    rw [mrg]
    split
    · rw [List.mem_cons, mrg_mem n a (y :: b) (by simp only [List.length_cons]; omega)]; simp [or_assoc]
    · rw [List.mem_cons, mrg_mem n (x :: a) b (by simp only [List.length_cons]; omega)]
      simp only [List.mem_cons]
      constructor
      · rintro (h | h | h)
        · exact .inr (.inl h)
        · exact .inl h
        · exact .inr (.inr h)
      · rintro (h | h | h)
        · exact .inr (.inl h)
        · exact .inl h
        · exact .inr (.inr h)
theorem mrg_len : ∀ (n : Nat) (a b : List Ent), a.length + b.length ≤ n → (mrg a b).length = a.length + b.length
  | 0, a, b, h => by
    have ha : a = [] := List.eq_nil_of_length_eq_zero (by omega)
    have hb : b = [] := List.eq_nil_of_length_eq_zero (by omega)
    subst ha hb; simp [mrg_nil1]
  | n + 1, [], b, h => by simp [mrg_nil1]
  | n + 1, x :: a, [], h => by simp [mrg_nil2]
  | n + 1, x :: a, y :: b, h => by
    simp only [List.length_cons] at h
    rw [mrg]
    split
    · rw [List.length_cons, mrg_len n a (y :: b) (by simp only [List.length_cons]; omega)]; simp only [List.length_cons]; omega
    · rw [List.length_cons, mrg_len n (x :: a) b (by simp only [List.length_cons]; omega)]; simp only [List.length_cons]; omega
theorem mrg_srt : ∀ (n : Nat) (a b : List Ent), a.length + b.length ≤ n → srt a → srt b → srt (mrg a b)
  | 0, a, b, h, _, _ => by
    have ha : a = [] := List.eq_nil_of_length_eq_zero (by omega)
    have hb : b = [] := List.eq_nil_of_length_eq_zero (by omega)
    subst ha hb; simp [mrg_nil1, srt]
  | n + 1, [], b, _, _, hb => by rw [mrg_nil1]; exact hb
  | n + 1, x :: a, [], _, ha, _ => by rw [mrg_nil2]; exact ha
  | n + 1, x :: a, y :: b, h, ha, hb => by
    simp only [List.length_cons] at h
    have ha' := List.pairwise_cons.1 ha
    have hb' := List.pairwise_cons.1 hb
    rw [mrg]
    split
    · rename_i hc
      refine List.pairwise_cons.2 ⟨fun z hz => ?_, mrg_srt n a (y :: b) (by simp only [List.length_cons]; omega) ha'.2 hb⟩
      rcases (mrg_mem (n := a.length + (y :: b).length) a (y :: b) (Nat.le_refl _)).1 hz with hz | hz
      · exact ha'.1 z hz
      · rcases List.mem_cons.1 hz with rfl | hz
        · exact bef_le hc
        · exact le_trans' (bef_le hc) (hb'.1 z hz)
    · rename_i hc
      have hc' : befB x y = false := by simpa using hc
      refine List.pairwise_cons.2 ⟨fun z hz => ?_, mrg_srt n (x :: a) b (by simp only [List.length_cons]; omega) ha hb'.2⟩
      rcases (mrg_mem (n := (x :: a).length + b.length) (x :: a) b (Nat.le_refl _)).1 hz with hz | hz
      · rcases List.mem_cons.1 hz with rfl | hz
        · exact hc'
        · exact le_trans' hc' (ha'.1 z hz)
      · exact hb'.1 z hz

def of1 (h : List Ent) : List Ent := h.filter fun x => decide (x.r = 1)
def of2 (h : List Ent) : List Ent := h.filter fun x => decide (x.r = 2)
def not1 (h : List Ent) : List Ent := h.filter fun x => !decide (x.r = 1)
theorem mrg_back : ∀ (h : List Ent), srt h → (∀ x ∈ h, x.r = 1 ∨ x.r = 2) → mrg (of1 h) (of2 h) = h
  | [], _, _ => by simp [of1, of2, mrg_nil1]
  | x :: l, hs, hr => by
    have hs' := List.pairwise_cons.1 hs
    have ih := mrg_back l hs'.2 fun y hy => hr y (List.mem_cons_of_mem _ hy)
    rcases hr x (List.mem_cons_self ..) with h1 | h2
    · have e1 : of1 (x :: l) = x :: of1 l := by simp [of1, h1]
      have e2 : of2 (x :: l) = of2 l := by simp [of2, h1]
      rw [e1, e2]
      cases hb : of2 l with
      | nil => rw [mrg_nil2]; rw [hb, mrg_nil2] at ih; rw [ih]
      | cons y b =>
        have hy : y ∈ of2 l := by rw [hb]; exact List.mem_cons_self ..
        have hy' := List.mem_filter.1 hy
        have hyr : y.r = 2 := by simpa using hy'.2
        have hbf : befB x y = true := bef_rooms (hs'.1 y hy'.1) (by rw [h1, hyr]; decide)
        rw [mrg, if_pos hbf, ← hb, ih]
    · have e1 : of1 (x :: l) = of1 l := by simp [of1, h2]
      have e2 : of2 (x :: l) = x :: of2 l := by simp [of2, h2]
      rw [e1, e2]
      cases ha : of1 l with
      | nil => rw [mrg_nil1]; rw [ha, mrg_nil1] at ih; rw [ih]
      | cons z a =>
        have hz : z ∈ of1 l := by rw [ha]; exact List.mem_cons_self ..
        have hz' := List.mem_filter.1 hz
        have hbf : befB z x = false := hs'.1 z hz'.1
        rw [mrg, if_neg (by rw [hbf]; exact Bool.false_ne_true), ← ha, ih]

theorem eqE_iff {x y : Ent} : eqE x y = true ↔ x = y := by
  obtain ⟨r, n, m, t⟩ := x
  obtain ⟨r', n', m', t'⟩ := y
  simp only [eqE, Bool.and_eq_true, decide_eq_true_eq, Ent.mk.injEq]
  constructor
  · rintro ⟨⟨⟨h1, h2⟩, h3⟩, h4⟩
    refine ⟨h1, h2, h3, ?_⟩
    apply ByteArray.ext
    apply Array.ext'
    rw [Go.ByteArray.toList_eq, Go.ByteArray.toList_eq] at h4
    exact h4
  · rintro ⟨rfl, rfl, rfl, rfl⟩; exact ⟨⟨⟨rfl, rfl⟩, rfl⟩, rfl⟩
theorem begF_self : ∀ l : List Ent, begF l l = true
  | [] => rfl
  | x :: l => by rw [begF, begF_self l, eqE_iff.2 rfl]; rfl
theorem begF_eq : ∀ {a b : List Ent}, b.length ≤ a.length → begF a b = true → a = b
  | [], [], _, _ => rfl
  | [], _ :: _, h, _ => by simp at h
  | _ :: _, [], _, h => by simp [begF] at h
  | x :: a, y :: b, h, hb => by
    rw [begF, Bool.and_eq_true] at hb
    rw [eqE_iff.1 hb.1, begF_eq (by simpa using h) hb.2]

theorem logB_ok {l : List Ent} (h : logB l = true) {k : Nat} (hk : k < l.length) : okAt l k = true := by
  unfold logB at h
  simp only [Bool.and_eq_true] at h
  exact List.all_eq_true.1 h.1 k (List.mem_range.2 hk)
theorem logB_room {l : List Ent} (h : logB l = true) {x y : Ent} (hx : x ∈ l) (hy : l[0]? = some y) : x.r = y.r := by
  obtain ⟨k, hk⟩ := List.mem_iff_getElem?.1 hx
  have hlt := (List.getElem?_eq_some_iff.1 hk).1
  obtain ⟨z, hz, _⟩ := get_lt (l := l) (i := k - 1) (by omega)
  have := logB_ok h hlt
  rw [okAt_eq hk hy hz] at this
  simp only [Bool.and_eq_true, decide_eq_true_eq] at this
  exact this.1.1.2
theorem logB_srt {l : List Ent} (h : logB l = true) : srt l := by
  rw [← adj_srt]
  apply adj_of
  intro i x y hx hy
  have hlt := (List.getElem?_eq_some_iff.1 hy).1
  obtain ⟨f, hf, _⟩ := get_lt (l := l) (i := 0) (by omega)
  obtain ⟨z, hz, _⟩ := get_lt (l := l) (i := i - 1) (by omega)
  have h1 := logB_ok h hlt
  have h2 := logB_ok h (k := i) (by omega)
  rw [okAt_eq hy hf (z := x) hx] at h1
  rw [okAt_eq hx hf hz] at h2
  simp only [Bool.and_eq_true, decide_eq_true_eq, Bool.or_eq_true] at h1 h2
  rw [befB_no]
  have a1 := h1.1.1.2; have a2 := h1.1.2; have a3 := h1.2; have b1 := h2.1.1.2; have b2 := h2.1.2
  omega

def ofB (l : List Ent) (r : Int) : Bool :=
  match l with
  | [] => true
  | x :: _ => decide (x.r = r)
/-- The reference's test of a history. -/
def histB (h : List Ent) : Bool := twoB (of1 h) (not1 h) && ofB (not1 h) 2 && begF h (mrg (of1 h) (not1 h))
/-- The program's test of a history. -/
def histI (h : List Ent) : Bool := decide ((of1 h).length + (of2 h).length = h.length) && logB (of1 h) && logB (of2 h) && adjB h
theorem len_not1 : ∀ h : List Ent, (of1 h).length + (not1 h).length = h.length
  | [] => rfl
  | x :: l => by
    have := len_not1 l
    unfold of1 not1 at *
    by_cases hx : x.r = 1 <;> simp [hx] <;> omega
theorem len_of2 : ∀ h : List Ent, (of2 h).length ≤ (not1 h).length ∧ ((of2 h).length = (not1 h).length → of2 h = not1 h ∧ ∀ x ∈ h, x.r = 1 ∨ x.r = 2)
  | [] => by simp [of2, not1]
  | x :: l => by
    obtain ⟨h1, h2⟩ := len_of2 l
    by_cases hx : x.r = 1
    · have e1 : of2 (x :: l) = of2 l := by simp [of2, hx]
      have e2 : not1 (x :: l) = not1 l := by simp [not1, hx]
      rw [e1, e2]
      exact ⟨h1, fun h => ⟨(h2 h).1, fun y hy => (List.mem_cons.1 hy).elim (fun e => by rw [e]; exact .inl hx) ((h2 h).2 y)⟩⟩
    · by_cases hx2 : x.r = 2
      · have e1 : of2 (x :: l) = x :: of2 l := by simp [of2, hx2]
        have e2 : not1 (x :: l) = x :: not1 l := by simp [not1, hx]
        rw [e1, e2]
        simp only [List.length_cons]
        exact ⟨by omega, fun h => ⟨by rw [(h2 (by omega)).1], fun y hy => (List.mem_cons.1 hy).elim (fun e => by rw [e]; exact .inr hx2) ((h2 (by omega)).2 y)⟩⟩
      · have e1 : of2 (x :: l) = of2 l := by simp [of2, hx2]
        have e2 : not1 (x :: l) = x :: not1 l := by simp [not1, hx]
        rw [e1, e2]
        simp only [List.length_cons]
        exact ⟨by omega, fun h => by omega⟩
theorem of2_not1 {h : List Ent} (hh : ∀ x ∈ not1 h, x.r = 2) : of2 h = not1 h := by
  induction h with
  | nil => rfl
  | cons x l ih =>
    by_cases hx : x.r = 1
    · have e1 : of2 (x :: l) = of2 l := by simp [of2, hx]
      have e2 : not1 (x :: l) = not1 l := by simp [not1, hx]
      rw [e2] at hh
      rw [e1, e2, ih hh]
    · have e2 : not1 (x :: l) = x :: not1 l := by simp [not1, hx]
      rw [e2] at hh
      have hx2 : x.r = 2 := hh x (List.mem_cons_self ..)
      have e1 : of2 (x :: l) = x :: of2 l := by simp [of2, hx2]
      rw [e1, e2, ih fun y hy => hh y (List.mem_cons_of_mem _ hy)]
theorem hist_eq (h : List Ent) : histI h = histB h := by
  rw [Bool.eq_iff_iff]
  unfold histI histB twoB
  simp only [Bool.and_eq_true, decide_eq_true_eq]
  have hn := len_not1 h
  obtain ⟨h1, h2⟩ := len_of2 h
  constructor
  · rintro ⟨⟨⟨a, b⟩, c⟩, d⟩
    obtain ⟨e, hr⟩ := h2 (by omega)
    rw [← e]
    refine ⟨⟨⟨b, c⟩, ?_⟩, ?_⟩
    · cases ho : of2 h with
      | nil => rfl
      | cons y l =>
        have hy : y ∈ of2 h := by rw [ho]; exact List.mem_cons_self ..
        have := (List.mem_filter.1 hy).2
        simpa [ofB] using this
    · rw [mrg_back h (adj_srt.1 d) hr]
      exact begF_self h
  · rintro ⟨⟨⟨a, b⟩, c⟩, d⟩
    have hall : ∀ x ∈ not1 h, x.r = 2 := by
      intro x hx
      cases ho : not1 h with
      | nil => rw [ho] at hx; cases hx
      | cons y l =>
        rw [logB_room b hx (y := y) (by rw [ho]; rfl)]
        rw [ho] at c
        simpa [ofB] using c
    have e := of2_not1 hall
    rw [e]
    refine ⟨⟨⟨hn, a⟩, b⟩, ?_⟩
    have hlen := mrg_len _ (of1 h) (not1 h) (Nat.le_refl _)
    have hq := begF_eq (by omega) d
    rw [adj_srt, hq]
    exact mrg_srt _ _ _ (Nat.le_refl _) (logB_srt a) (logB_srt b)
end Go.Proofs.YtmdmcjhodhphgaaGreat

/- The text of an entry and of a log, in plain Lean: no program walked. No conditions. -/
import Derived.Test.YtmdmcjhodhphgaaGreatDoorCutP
import Derived.Test.YtmdmcjhodhphgaaGreatDoorNumT
import Derived.Test.YtmdmcjhodhphgaaGreatDoorLog
namespace Go.Proofs.YtmdmcjhodhphgaaGreatDoor
open Go.RowKit

abbrev Dg (n : Int) : List UInt8 := Lib.decDigits n.toNat
def headT (e : Ent) : ByteArray := numT e.r.toNat ++ ⟨#[46]⟩ ++ numT e.n.toNat
def lineT (e : Ent) : ByteArray := headT e ++ ⟨#[64]⟩ ++ numT e.m.toNat ++ ⟨#[32]⟩ ++ e.t
theorem entB_in {r n m : Int} {t : ByteArray} (h : entB r n m t = true) : (1 ≤ r ∧ r ≤ 2) ∧ (1 ≤ n ∧ n ≤ 999) ∧ (0 ≤ m ∧ m ≤ 99999) ∧ textB t 40 = true := by
  simp only [entB, roomB, minB, inB, Bool.and_eq_true, decide_eq_true_eq] at h
  obtain ⟨⟨⟨h1, h2⟩, h3⟩, h4⟩ := h
  exact ⟨h1, h2, h3, h4⟩
theorem textB_in {t : ByteArray} {k : Int} (h : textB t k = true) : (1 ≤ t.size ∧ (t.size : Int) ≤ k) ∧ ∀ c ∈ t.data.toList, byteI c.toNat = true := by
  simp only [textB, Bool.and_eq_true, decide_eq_true_eq] at h
  obtain ⟨⟨h1, h2⟩, _⟩ := h
  exact ⟨h2, fun c hc => List.all_eq_true.1 h1 c hc⟩
theorem headT_data (e : Ent) : (headT e).data.toList = Dg e.r ++ 46 :: Dg e.n := by
  simp [headT, ByteArray.data_append, Array.toList_append, numT_dec]
theorem lineT_data (e : Ent) : (lineT e).data.toList = (((Dg e.r ++ 46 :: Dg e.n) ++ 64 :: Dg e.m) ++ 32 :: e.t.data.toList) := by
  simp [lineT, ByteArray.data_append, Array.toList_append, numT_dec, headT_data]
theorem dg_not {b : UInt8} (h : ¬ (48 ≤ b.toNat ∧ b.toNat ≤ 57)) (n : Int) : b ∉ Dg n := fun hh => h (dec_bytes _ b hh)
theorem line_nosp (e : Ent) : (32 : UInt8) ∉ ((Dg e.r ++ 46 :: Dg e.n) ++ 64 :: Dg e.m) := by
  have h := fun n => dg_not (b := 32) (by decide) n
  simp only [List.mem_append, List.mem_cons, not_or]
  exact ⟨⟨h _, by decide, h _⟩, by decide, h _⟩
theorem line_noat (e : Ent) : (64 : UInt8) ∉ (Dg e.r ++ 46 :: Dg e.n) := by
  have h := fun n => dg_not (b := 64) (by decide) n
  simp only [List.mem_append, List.mem_cons, not_or]
  exact ⟨h _, by decide, h _⟩
theorem line_nodot (n : Int) : (46 : UInt8) ∉ Dg n := dg_not (by decide) n
theorem line_nonl {e : Ent} (h : entB e.r e.n e.m e.t = true) : (10 : UInt8) ∉ (lineT e).data.toList := by
  have h1 := fun n => dg_not (b := 10) (by decide) n
  rw [lineT_data]
  simp only [List.mem_append, List.mem_cons, not_or]
  refine ⟨⟨⟨h1 _, by decide, h1 _⟩, by decide, h1 _⟩, by decide, fun hh => ?_⟩
  have := (textB_in (entB_in h).2.2.2).2 _ hh
  revert this
  decide
theorem dg_len {n : Int} {k : Nat} (hk : 1 ≤ k) (h : n.toNat < 10 ^ k) : (Dg n).length ≤ k := dec_len hk h
theorem line_len {e : Ent} (h : entB e.r e.n e.m e.t = true) : (lineT e).size ≤ 52 := by
  obtain ⟨hr, hn, hm, ht⟩ := entB_in h
  have h1 := dg_len (n := e.r) (k := 1) (by omega) (by omega)
  have h2 := dg_len (n := e.n) (k := 3) (by omega) (by omega)
  have h3 := dg_len (n := e.m) (k := 5) (by omega) (by omega)
  have h4 := (textB_in ht).1.2
  rw [Lib.size_eq] at h4 ⊢
  rw [lineT_data]
  simp only [List.length_append, List.length_cons]
  omega
theorem line_pos (e : Ent) : (lineT e).data.toList ≠ [] := by rw [lineT_data]; simp
/-- The parts of a line are its entry's. -/
theorem line_inj {e : Ent} {r n m : Int} {t : ByteArray} (h : entB e.r e.n e.m e.t = true) (hg : entB r n m t = true) (hl : (lineT e).data.toList = (lineT ⟨r, n, m, t⟩).data.toList) : e = ⟨r, n, m, t⟩ := by
  rw [lineT_data, lineT_data] at hl
  obtain ⟨h1, h2⟩ := first_byte hl (line_nosp e) (line_nosp ⟨r, n, m, t⟩)
  obtain ⟨h3, h4⟩ := first_byte h1 (line_noat e) (line_noat ⟨r, n, m, t⟩)
  obtain ⟨h5, h6⟩ := first_byte h3 (line_nodot _) (line_nodot _)
  have i1 := dec_inj h5
  have i2 := dec_inj h6
  have i3 := dec_inj h4
  obtain ⟨a1, a2, a3, _⟩ := entB_in h
  obtain ⟨b1, b2, b3, _⟩ := entB_in hg
  have e4 : e.t = t := by
    apply ByteArray.ext
    apply Array.ext'
    exact h2
  obtain ⟨er, en, em, et⟩ := e
  simp only at i1 i2 i3 e4 a1 a2 a3
  obtain rfl : er = r := by omega
  obtain rfl : en = n := by omega
  obtain rfl : em = m := by omega
  rw [e4]
/-- The text of a log. -/
def allT (l : List Ent) : ByteArray := l.foldl (fun s e => s ++ (lineT e ++ ⟨#[10]⟩)) ⟨#[]⟩
theorem allT_snoc (l : List Ent) (e : Ent) : allT (l ++ [e]) = allT l ++ (lineT e ++ ⟨#[10]⟩) := by simp [allT, List.foldl_append]
theorem allT_data (l : List Ent) : (allT l).data.toList = l.flatMap fun e => (lineT e).data.toList ++ [10] := by
  have : ∀ (l : List Ent) (s : ByteArray), (l.foldl (fun s e => s ++ (lineT e ++ ⟨#[10]⟩)) s).data.toList = s.data.toList ++ l.flatMap fun e => (lineT e).data.toList ++ [10] := by
    intro l
    induction l with
    | nil => intro s; simp
    | cons e l ih => intro s; rw [List.foldl_cons, ih]; simp [ByteArray.data_append]
  rw [allT, this]
  simp
def entsB (l : List Ent) : Prop := ∀ e ∈ l, entB e.r e.n e.m e.t = true
theorem allT_size : ∀ {l : List Ent}, entsB l → (allT l).size ≤ 53 * l.length := by
  intro l h
  rw [Lib.size_eq, allT_data]
  induction l with
  | nil => simp
  | cons e l ih =>
    have h1 := line_len (h e (by simp))
    rw [Lib.size_eq] at h1
    have h2 := ih (fun x hx => h x (by simp [hx]))
    simp only [List.flatMap_cons, List.length_append, List.length_cons, List.length_nil]
    omega
theorem okAt_ent {l : List Ent} {k : Nat} {x : Ent} (hx : l[k]? = some x) (h : okAt l k = true) : entB x.r x.n x.m x.t = true := by
  have hk := (List.getElem?_eq_some_iff.1 hx).1
  have h0 : 0 < l.length := by omega
  have hy : l[0]? = some l[0] := List.getElem?_eq_getElem h0
  have hz : l[k - 1]? = some l[k - 1] := List.getElem?_eq_getElem (by omega)
  rw [okAt_eq hx hy hz] at h
  simp only [Bool.and_eq_true] at h
  exact h.1.1.1
theorem logB_ents {l : List Ent} (h : logB l = true) : entsB l ∧ l.length ≤ 20 := by
  unfold logB at h
  rw [Bool.and_eq_true] at h
  refine ⟨fun e he => ?_, by simpa using h.2⟩
  obtain ⟨k, hk⟩ := List.mem_iff_getElem?.1 he
  exact okAt_ent hk (List.all_eq_true.1 h.1 k (by have := (List.getElem?_eq_some_iff.1 hk).1; simpa using this))
end Go.Proofs.YtmdmcjhodhphgaaGreatDoor

/- Sorting entries by the library's own sort. Conditions: lists of at most 2^20. -/
import Derived.Test.YtmdmcjhodhphgaaGreatGood
import Derived.Test.YtmdmcjhodhphgaaGreatUniq
import Derived.Test.YtmdmcjhodhphgaaGreatShAll
import Derived.Shelf.SlSortCmp.WholeK
namespace Go.Proofs.YtmdmcjhodhphgaaGreat
open Go.RowKit Go.Sort

instance : Inhabited Ent := ⟨⟨0, 0, 0, ⟨#[]⟩⟩⟩
theorem ltE (x y : Ent) : ltOf cmpE x y = befB x y := by
  rw [Bool.eq_iff_iff]
  simp [ltOf, cmpE_neg]
theorem swoE : SWO (ltOf cmpE) where
  irrefl x := by rw [ltE, befB_no]; omega
  trans x y z := by rw [ltE, ltE, ltE, befB_iff, befB_iff, befB_iff]; omega
  ntrans x y z := by rw [ltE, ltE, ltE, befB_no, befB_no, befB_no]; omega
theorem aggE : ∀ w, (isAgg 38).run Tryz.prog w = .ok true w := fun w => by kernel_rfl
theorem sizeE : ∀ w, (Go.sizeOf 38).run Tryz.prog w = .ok 4 w := fun w => by kernel_rfl
theorem cmpE_enters : ∀ args w, (callFunc 61 args).run Tryz.prog w = .ok (.enter 61 args) w := enters Tryz.func61 (by kernel_rfl) (by kernel_rfl)
theorem perm_of {d d' : Array Ent} (h : PermIn 0 d.size d d') : d'.toList.Perm d.toList := by
  obtain ⟨hsz, _, hp⟩ := h
  have e1 : d'.extract 0 d.size = d' := by rw [← hsz]; exact Array.extract_size
  rw [e1, Array.extract_size] at hp
  exact hp
theorem srt_of {d' : Array Ent} {n : Nat} (hn : d'.size = n) (h : SortedIn (ltOf cmpE) 0 n d') : srt d'.toList := by
  unfold srt
  rw [List.pairwise_iff_getElem]
  intro i j hi hj hij
  have hi' : i < d'.size := by simpa using hi
  have hj' : j < d'.size := by simpa using hj
  have := h i j (Nat.zero_le _) hij (by omega)
  rw [getElem!_pos d' j hj', getElem!_pos d' i hi', ltE] at this
  simpa using this
theorem SortE_any (A : Option Addr) (c lo hi : Nat) (l : List Ent) (w : World) (hl : l.length ≤ 1048576) (hS : Ents w lo hi A l) :
    Calls Tryz.prog 60 #[.slice A l.length c, .func (.func 61) #[] #[]] w fun e w' => e = .returned (.tuple #[]) ∧ ∃ l', l'.Perm l ∧ srt l' ∧ Ents w' lo hi A l' ∧ Fr lo hi w w' := by
  by_cases hn : l = []
  · subst hn
    refine (Tryz.slices_SortFunc_none (α := Ent) A c _ w).mono ?_
    rintro e w' ⟨rfl, rfl⟩
    exact ⟨rfl, [], List.Perm.refl _, List.Pairwise.nil, Sl.nil_, Fr.refl _ _ _⟩
  obtain ⟨b, off, rfl, h1, h2, h3, hf⟩ := hS hn
  have hb : b < w.heap.size := by omega
  have hH : HoldsK Ent.cells 4 w b off l.toArray := by
    intro t ht
    rw [size_flatK] at ht
    have ht' : t < l.length * 4 := by simpa using ht
    rw [get_flatK _ _ _ _ ht]
    have hq : t / 4 < l.length := by omega
    have hx : l[t / 4]? = some l[t / 4] := List.getElem?_eq_getElem hq
    have hr : t % 4 < (l[t / 4]).cells.length := by rw [Ent.len]; omega
    have := hf (t / 4) _ hx (t % 4) _ (List.getElem?_eq_getElem hr)
    rw [show off + t / 4 * 4 + t % 4 = off + t by omega] at this
    have e1 : (l.toArray)[t / 4]! = l[t / 4] := by rw [getElem!_pos _ _ (by simpa using hq)]; simp
    rw [e1, getElem!_pos (l[t / 4]).cells _ hr]
    exact this
  have hcmp : CmpLays Tryz.prog 61 #[] Ent.cells 4 cmpE b off l.toArray.size w := fun m os dk _ x y =>
    (compareEntries_grow x y _).mono fun _ _ ⟨he, os', hw⟩ => ⟨he, 1, os', hw⟩
  have := Tryz.slices_SortFunc 4 aggE sizeE Ent.cells Ent.len Ent.one cmpE swoE 61 #[] b off c l.toArray w cmpE_enters hcmp hH hb (by simp; omega)
  rw [List.size_toArray] at this
  refine this.mono ?_
  rintro e w' ⟨rfl, d', n, os, hp, hs, hw⟩
  have hsz : d'.size = l.length := by have := hp.1; simpa using this
  have hp' : d'.toList.Perm l := by
    have := perm_of (d := l.toArray) (by simpa using hp)
    simpa using this
  have hHK := holdsK_sortWorldK_c Ent.cells 4 w b off l.toArray d' n os hH hb (by simpa using hsz)
  rw [← hw] at hHK
  refine ⟨rfl, d'.toList, hp', srt_of hsz hs, fun _ => ⟨b, off, rfl, h1, h2, ?_, fun i x hx j v hv => ?_⟩, ?_⟩
  · have := size_sortWorldK_c Ent.cells 4 w b off n d' os
    rw [← hw] at this
    omega
  · have hi : i < d'.size := by have := (List.getElem?_eq_some_iff.1 hx).1; simpa using this
    have hj : j < 4 := by have := (List.getElem?_eq_some_iff.1 hv).1; rw [Ent.len] at this; exact this
    have hc := hHK.cell hi hj
    have e1 : d'[i]! = x := by
      rw [getElem!_pos d' i hi]
      have := (List.getElem?_eq_some_iff.1 hx).2
      simpa using this
    rw [e1] at hc
    obtain ⟨hjl, hje⟩ := List.getElem?_eq_some_iff.1 hv
    rw [getElem!_pos x.cells j hjl, hje] at hc
    exact hc
  · rw [hw]
    refine ⟨rfl, rfl, rfl, size_sortWorldK_c Ent.cells 4 w b off n d' os, fun k hk hne => ?_⟩
    have hkb : k ≠ b := fun e => hne (by omega)
    unfold sortWorldK
    rw [heap_grow_old _ _ (by rw [size_putRowK]; exact hk)]
    unfold putRowK putRow mapBlock
    show (w.heap.modify b _)[k]? = _
    rw [Array.getElem?_modify, if_neg (fun e => hkb e.symm)]
end Go.Proofs.YtmdmcjhodhphgaaGreat

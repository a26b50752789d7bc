/- The reference's small drawing functions: what they return, and that only the cursor changes. Conditions: a valid cursor, fewer than 2^39 steps. -/
import Derived.Test.YtjmjilkpckbpeaaGreatDoorCur
import Derived.Test.YtjmjilkpckbpeaaGreatDoorLE
import Derived.Test.YtjmjilkpckbpeaaGreatDoorLF
import Derived.Test.YtjmjilkpckbpeaaGreatDoorLM
import Derived.Test.YtjmjilkpckbpeaaGreatDoorLA
namespace Go.Proofs.YtjmjilkpckbpeaaGreatDoor
open Go.RowKit

theorem strs_lit (w : World) (l : List ByteArray) (cs : Array Value) (T : TypeId) (n : Nat) (hn : n = w.heap.size) (hcs : cs = (l.map Value.string).toArray) : Strs (w.alloc (.cells cs T)) w.heap.size (w.alloc (.cells cs T)).heap.size (some ⟨n, 0, none⟩) l := fun _ => by
  subst hn hcs
  refine ⟨w.heap.size, 0, rfl, Nat.le_refl _, by simp, Nat.le_refl _, fun i x hx j v hv => ?_⟩
  have hj : j = 0 := by have := (List.getElem?_eq_some_iff.1 hv).1; simp [Strs.cells] at this; omega
  subst hj
  have hv' : v = .string x := by simpa [Strs.cells] using hv.symm
  subst hv'
  refine ⟨?_, World.frozen?_alloc_at _ _ _ _ rfl⟩
  rw [World.cell?_alloc_at _ _ _ _ rfl]
  simp [hx]
theorem Fr.setNew {lo hi : Nat} {w W : World} (h : Fr lo hi w W) {p : Addr} (hp : w.heap.size ≤ p.block) (u : Value) : Fr lo hi w (W.setCell p u) :=
  ⟨h.os, h.tape, h.output, Nat.le_trans h.size (by simp [World.setCell]), fun b hb hd => (Below.heap_setCell _ _ _ _ (by intro e; omega)).trans (h.block b hb hd)⟩
theorem BN.fr {b lo hi : Nat} {vs : List Value} {X X' : World} (a : BN b vs X) (hF : Fr lo hi X X') (h : vs ≠ []) (hd : b < lo ∨ hi ≤ b) : BN b vs X' := a.same (hF.block b (a.lt h) (by omega))
theorem Own.frm {α : Type} {E : α → List Value} {k : Nat} {T : TypeId} {w w' : World} {base lo hi : Nat} {A : Option Addr} {c : Nat} {l : List α} (h : Own E k T w base A c l) (hF : Fr lo hi w w') (hd : hi ≤ base) : Own E k T w' base A c l := h.keep fun b h1 h2 => hF.block b h2 (by omega)
theorem Cur.set {pb N c : Nat} {A : Option Addr} {l : List Int} {w : World} (h : Cur pb A c l N w) {p : Addr} (hp : pb < p.block) (u : Value) : Cur pb A c l N (w.setCell p u) :=
  h.upto (B := pb + 1) (by omega) (((Fr.refl p.block (p.block + 1) w).setCell ⟨Nat.le_refl _, Nat.lt_succ_self _⟩ u).below (by omega) (by have := h.lt; omega))
theorem among_lit (pb : Nat) (A : Option Addr) (c : Nat) (l : List Int) (N : Nat) (L : List Int) (d : Nat) (hd : d = L.length) (W : World) (cs : Array Value) (T : TypeId) (g : Nat) (hg : g = W.heap.size) (hcs : cs = (L.map (Value.int .i64)).toArray) (hC : Cur pb A c l N W) (hN : N ≤ 1000000000000) (h1 : 0 < L.length) (h2 : L.length ≤ 1048576) :
    Calls Tryz.prog 62 #[.pointer (some ⟨pb, 0, none⟩), .slice (some ⟨g, 0, none⟩) d d] (W.alloc (.cells cs T)) fun e w' => ∃ k : Int, k ∈ L ∧ e = .returned (.int .i64 k) ∧ Cur pb A c l (N + 2) w' ∧ Fr pb (pb + 1) W w' := by
  have hS := ints_lit W L cs T g hg hcs
  subst hd
  refine (among_any pb A c l N _ L.length _ _ L _ (hC.alloc _) hN hS (.inr hC.lt) h1 h2).mono ?_
  rintro e w' ⟨v, rfl, ⟨k, hk, rfl⟩, hC', hF⟩
  exact ⟨k, hk, rfl, hC', ((Fr.refl _ _ _).alloc _).trans hF⟩
theorem of_lit (pb : Nat) (A : Option Addr) (c : Nat) (l : List Int) (N : Nat) (L : List ByteArray) (d : Nat) (hd : d = L.length) (m : Nat) (hm : ∀ s ∈ L, s.size ≤ m) (W : World) (cs : Array Value) (T : TypeId) (g : Nat) (hg : g = W.heap.size) (hcs : cs = (L.map Value.string).toArray) (hC : Cur pb A c l N W) (hN : N ≤ 1000000000000) (h1 : 0 < L.length) (h2 : L.length ≤ 1048576) :
    Calls Tryz.prog 90 #[.pointer (some ⟨pb, 0, none⟩), .slice (some ⟨g, 0, none⟩) d d] (W.alloc (.cells cs T)) fun e w' => ∃ s : ByteArray, s.size ≤ m ∧ e = .returned (.string s) ∧ Cur pb A c l (N + 2) w' ∧ Fr pb (pb + 1) W w' := by
  have hS := strs_lit W L cs T g hg hcs
  subst hd
  refine (of_any pb A c l N _ L.length _ _ L _ (hC.alloc _) hN hS (.inr hC.lt) h1 h2).mono ?_
  rintro e w' ⟨v, rfl, ⟨k, hk, rfl⟩, hC', hF⟩
  exact ⟨k, hm k hk, rfl, hC', ((Fr.refl _ _ _).alloc _).trans hF⟩
/-- The call returned a text of at most m bytes; only the cursor changed. -/
def CS (pb : Nat) (A : Option Addr) (c : Nat) (l : List Int) (N : Nat) (m : Nat) (w : World) (e : Ending) (w' : World) : Prop := ∃ s : ByteArray, s.size ≤ m ∧ e = .returned (.string s) ∧ Cur pb A c l N w' ∧ Fr pb (pb + 1) w w'
/-- The call returned a number; only the cursor changed. -/
def CI (pb : Nat) (A : Option Addr) (c : Nat) (l : List Int) (N : Nat) (w : World) (e : Ending) (w' : World) : Prop := ∃ k : Int, e = .returned (.int .i64 k) ∧ Cur pb A c l N w' ∧ Fr pb (pb + 1) w w'
set_option maxHeartbeats 4000000 in
theorem crewName_any (pb : Nat) (A : Option Addr) (c : Nat) (l : List Int) (N : Nat) (w : World) (hC : Cur pb A c l N w) (hN : N ≤ 900000000000) :
    Calls Tryz.prog 81 #[.pointer (some ⟨pb, 0, none⟩)] w (CS pb A c l (N + 4) 7 w) := by
  have hpb := hC.lt
  have hF := Fr.refl pb (pb + 1) w
  go_enter Tryz.func81, Tryz.ntmps81
  go_wp2_with fail
  refine (of_lit pb A c l (N) [⟨#[97]⟩, ⟨#[]⟩, ⟨#[49]⟩, ⟨#[115, 101, 118, 101, 110, 120, 120]⟩] 4 rfl 7 (List.forall_mem_cons.2 ⟨(by decide), (List.forall_mem_cons.2 ⟨(by decide), (List.forall_mem_cons.2 ⟨(by decide), (List.forall_mem_cons.2 ⟨(by decide), (fun _ h => nomatch h)⟩)⟩)⟩)⟩) _ _ _ _ (by simp) rfl hC (by omega) (by simp) (by simp)).mono ?_
  rintro e w1 ⟨s1, hs1, rfl, hC1, hFn⟩
  replace hF := hF.trans hFn
  clear hFn
  have hl1 := hC1.lt
  go_wp2_with fail
  refine (of_lit pb A c l (N + 2) [⟨#[97]⟩, ⟨#[97]⟩, ⟨#[98]⟩, ⟨#[98]⟩, ⟨#[99]⟩, ⟨#[100, 49]⟩, ⟨#[115, 105, 120, 115, 105, 120]⟩, s1] 8 rfl 7 (List.forall_mem_cons.2 ⟨(by decide), (List.forall_mem_cons.2 ⟨(by decide), (List.forall_mem_cons.2 ⟨(by decide), (List.forall_mem_cons.2 ⟨(by decide), (List.forall_mem_cons.2 ⟨(by decide), (List.forall_mem_cons.2 ⟨(by decide), (List.forall_mem_cons.2 ⟨(by decide), (List.forall_mem_cons.2 ⟨hs1, (fun _ h => nomatch h)⟩)⟩)⟩)⟩)⟩)⟩)⟩)⟩) _ _ _ _ (by simp) rfl hC1 (by omega) (by simp) (by simp)).mono ?_
  rintro e w2 ⟨s2, hs2, rfl, hC2, hFn⟩
  replace hF := hF.trans hFn
  clear hFn
  clear hC1
  have hl2 := hC2.lt
  go_wp2
  go_ret
  exact ⟨s2, hs2, rfl, hC2, hF⟩
set_option maxHeartbeats 4000000 in
theorem bodyOf_any (pb : Nat) (A : Option Addr) (c : Nat) (l : List Int) (N : Nat) (w : World) (hC : Cur pb A c l N w) (hN : N ≤ 900000000000) :
    Calls Tryz.prog 128 #[.pointer (some ⟨pb, 0, none⟩)] w (CS pb A c l (N + 4) 13 w) := by
  have hpb := hC.lt
  have hF := Fr.refl pb (pb + 1) w
  go_enter Tryz.func128, Tryz.ntmps128
  go_wp2_with fail
  refine (of_lit pb A c l (N) [⟨#[116, 119, 101, 108, 118, 101, 32, 99, 104, 97, 114, 115]⟩, ⟨#[116, 104, 105, 114, 116, 101, 101, 110, 32, 99, 104, 97, 114]⟩, ⟨#[32, 120]⟩, ⟨#[120, 32]⟩, ⟨#[]⟩, ⟨#[88]⟩] 6 rfl 13 (List.forall_mem_cons.2 ⟨(by decide), (List.forall_mem_cons.2 ⟨(by decide), (List.forall_mem_cons.2 ⟨(by decide), (List.forall_mem_cons.2 ⟨(by decide), (List.forall_mem_cons.2 ⟨(by decide), (List.forall_mem_cons.2 ⟨(by decide), (fun _ h => nomatch h)⟩)⟩)⟩)⟩)⟩)⟩) _ _ _ _ (by simp) rfl hC (by omega) (by simp) (by simp)).mono ?_
  rintro e w1 ⟨s1, hs1, rfl, hC1, hFn⟩
  replace hF := hF.trans hFn
  clear hFn
  have hl1 := hC1.lt
  go_wp2_with fail
  refine (of_lit pb A c l (N + 2) [⟨#[109, 111, 118, 105, 110, 103]⟩, ⟨#[116, 104, 101, 114, 101]⟩, ⟨#[102, 114, 101, 101]⟩, ⟨#[104, 111, 109, 101]⟩, ⟨#[119, 97, 116, 101, 114, 32, 111, 110]⟩, ⟨#[97, 98]⟩, s1] 7 rfl 13 (List.forall_mem_cons.2 ⟨(by decide), (List.forall_mem_cons.2 ⟨(by decide), (List.forall_mem_cons.2 ⟨(by decide), (List.forall_mem_cons.2 ⟨(by decide), (List.forall_mem_cons.2 ⟨(by decide), (List.forall_mem_cons.2 ⟨(by decide), (List.forall_mem_cons.2 ⟨hs1, (fun _ h => nomatch h)⟩)⟩)⟩)⟩)⟩)⟩)⟩) _ _ _ _ (by simp) rfl hC1 (by omega) (by simp) (by simp)).mono ?_
  rintro e w2 ⟨s2, hs2, rfl, hC2, hFn⟩
  replace hF := hF.trans hFn
  clear hFn
  clear hC1
  have hl2 := hC2.lt
  go_wp2
  go_ret
  exact ⟨s2, hs2, rfl, hC2, hF⟩
set_option maxHeartbeats 4000000 in
theorem stateOf_any (pb : Nat) (A : Option Addr) (c : Nat) (l : List Int) (N : Nat) (w : World) (hC : Cur pb A c l N w) (hN : N ≤ 900000000000) :
    Calls Tryz.prog 99 #[.pointer (some ⟨pb, 0, none⟩)] w (CI pb A c l (N + 4) w) := by
  have hpb := hC.lt
  have hF := Fr.refl pb (pb + 1) w
  go_enter Tryz.func99, Tryz.ntmps99
  go_wp2_with fail
  refine (among_lit pb A c l (N) [-1, 6] 2 rfl _ _ _ _ (by simp) rfl hC (by omega) (by simp) (by simp)).mono ?_
  rintro e w1 ⟨k1, _, rfl, hC1, hFn⟩
  replace hF := hF.trans hFn
  clear hFn
  have hl1 := hC1.lt
  go_wp2_with fail
  refine (among_lit pb A c l (N + 2) [0, 1, 2, 3, 4, 5, k1] 7 rfl _ _ _ _ (by simp) rfl hC1 (by omega) (by simp) (by simp)).mono ?_
  rintro e w2 ⟨k2, _, rfl, hC2, hFn⟩
  replace hF := hF.trans hFn
  clear hFn
  clear hC1
  have hl2 := hC2.lt
  go_wp2
  go_ret
  exact ⟨k2, rfl, hC2, hF⟩
set_option maxHeartbeats 4000000 in
theorem message_any (pb : Nat) (A : Option Addr) (c : Nat) (l : List Int) (N : Nat) (w : World) (hC : Cur pb A c l N w) (hN : N ≤ 800000000000) :
    Calls Tryz.prog 88 #[.pointer (some ⟨pb, 0, none⟩)] w fun e w' => ∃ x : Msg, (x.f.size ≤ 7 ∧ x.b.size ≤ 13) ∧ e = .returned (.agg #[.string x.f, .int .i64 x.n, .string x.b]) ∧ Cur pb A c l (N + 12) w' ∧ Fr pb (pb + 1) w w' := by
  have hpb := hC.lt
  have hR := BN.new w #[.string ⟨#[]⟩, .int .i64 0, .string ⟨#[]⟩] 33 _ rfl
  have hF := (Fr.refl pb (pb + 1) w).alloc (.cells #[.string ⟨#[]⟩, .int .i64 0, .string ⟨#[]⟩] 33)
  have hC0 := hC.alloc (.cells #[.string ⟨#[]⟩, .int .i64 0, .string ⟨#[]⟩] 33)
  go_enter Tryz.func88, Tryz.ntmps88
  go_wp2_with fail
  refine (crewName_any pb A c l N _ hC0 (by omega)).mono ?_
  rintro e w1 ⟨s1, hs1, rfl, hC1, hFn⟩
  replace hR := hR.fr hFn (by simp) (by omega)
  replace hF := hF.trans hFn
  clear hFn
  clear hC0
  have hl1 := hC1.lt
  go_wp2_with fail
  refine (among_lit pb A c l (N + 4) [0, 1000, -1] 3 rfl _ _ _ _ (by simp) rfl hC1 (by omega) (by simp) (by simp)).mono ?_
  rintro e w2 ⟨k1, _, rfl, hC2, hFn⟩
  replace hR := hR.fr hFn (by simp) (by omega)
  replace hF := hF.trans hFn
  clear hFn
  clear hC1
  have hl2 := hC2.lt
  go_wp2_with fail
  refine (among_lit pb A c l (N + 6) [1, 2, 3, 999, k1] 5 rfl _ _ _ _ (by simp) rfl hC2 (by omega) (by simp) (by simp)).mono ?_
  rintro e w3 ⟨k2, _, rfl, hC3, hFn⟩
  replace hR := hR.fr hFn (by simp) (by omega)
  replace hF := hF.trans hFn
  clear hFn
  clear hC2
  have hl3 := hC3.lt
  go_wp2_with fail
  refine (bodyOf_any pb A c l (N + 8) _ hC3 (by omega)).mono ?_
  rintro e w4 ⟨s2, hs2, rfl, hC4, hFn⟩
  replace hR := hR.fr hFn (by simp) (by omega)
  replace hF := hF.trans hFn
  clear hFn
  clear hC3
  have hl4 := hC4.lt
  have hR' := (((hR.put (i := 0) rfl (.string s1)).put (i := 1) rfl (.int .i64 k2)).put (i := 2) rfl (.string s2))
  have hC' := (((hC4.set (p := ⟨w.heap.size, 0, none⟩) (by simp; omega) (.string s1)).set (p := ⟨w.heap.size, 1, none⟩) (by simp; omega) (.int .i64 k2)).set (p := ⟨w.heap.size, 2, none⟩) (by simp; omega) (.string s2))
  have hF' := (((hF.setNew (p := ⟨w.heap.size, 0, none⟩) (by simp) (.string s1)).setNew (p := ⟨w.heap.size, 1, none⟩) (by simp) (.int .i64 k2)).setNew (p := ⟨w.heap.size, 2, none⟩) (by simp) (.string s2))
  have r0 := (hR 0 _ rfl).1
  have g0 := (hR 0 _ rfl).2
  have x0 := (hR' 0 _ rfl).1
  have r1 := (hR 1 _ rfl).1
  have g1 := (hR 1 _ rfl).2
  have x1 := (hR' 1 _ rfl).1
  have r2 := (hR 2 _ rfl).1
  have g2 := (hR 2 _ rfl).2
  have x2 := (hR' 2 _ rfl).1
  go_wp2
  refine bodyPost_ret (by simp [results, Tryz.results88, go_sem, x0, x1, x2]; try rfl) rfl ?_
  exact ⟨⟨s1, k2, s2⟩, ⟨hs1, hs2⟩, rfl, hC', hF'⟩
set_option maxHeartbeats 4000000 in
theorem nameIn_any (pb : Nat) (A : Option Addr) (c : Nat) (l : List Int) (N : Nat) (B : Option Addr) (d : Nat) (L : List App) (lo hi : Nat) (w : World) (hC : Cur pb A c l N w) (hN : N ≤ 900000000000) (hL : L.length ≤ 1048576) (hm : ∀ y ∈ L, y.nm.size ≤ 1048576) (hS : Apps w lo hi B L) (hd : hi ≤ pb ∨ pb < lo) :
    Calls Tryz.prog 98 #[.pointer (some ⟨pb, 0, none⟩), .slice B L.length d] w (CS pb A c l (N + 4) 1048576 w) := by
  have hpb := hC.lt
  have hF := Fr.refl pb (pb + 1) w
  by_cases h0 : 0 < L.length
  · skip
    have h0' : (0 : Int) < L.length := by omega
    go_enter Tryz.func98, Tryz.ntmps98
    go_wp2_with fail
    refine (one_any pb A c l (N) 10 _ hC (by omega) (by omega)).mono ?_
    rintro e w1 ⟨_, rfl, ⟨b, rfl⟩, hC1, hFn⟩
    replace hF := hF.trans hFn
    clear hFn
    have hl1 := hC1.lt
    cases b with
    | false =>
      go_wp2_with fail
      refine (pick_any pb A c l (N + 2) _ _ hC1 (by omega) (by omega)).mono ?_
      rintro e w2 ⟨_, rfl, ⟨k2, rfl, hk⟩, hC2, hFn⟩
      replace hF := hF.trans hFn
      clear hFn
      clear hC1
      have hl2 := hC2.lt
      obtain ⟨x, hx, hxm⟩ := get_lt (l := L) (i := k2) (by omega)
      replace hS := hS.fr hF (by omega)
      obtain ⟨ob, oo, rfl, _, _, _, hf⟩ := hS.at_ hx
      have c0 : w2.cell? ⟨ob, oo + k2 * 5, none⟩ = some (.string x.nm) := (hf 0 _ rfl).1
      have hkL : (k2 : Int) < L.length := by omega
      clear hf hx
      go_wp2
      go_ret
      exact ⟨x.nm, hm x hxm, rfl, hC2, hF⟩
    | true =>
      go_wp2_with fail
      refine (of_lit pb A c l (N + 2) [⟨#[112, 49]⟩, ⟨#[120, 57]⟩, ⟨#[]⟩] 3 rfl 1048576 (List.forall_mem_cons.2 ⟨(by decide), (List.forall_mem_cons.2 ⟨(by decide), (List.forall_mem_cons.2 ⟨(by decide), (fun _ h => nomatch h)⟩)⟩)⟩) _ _ _ _ (by simp) rfl hC1 (by omega) (by simp) (by simp)).mono ?_
      rintro e w2 ⟨s2, hs2, rfl, hC2, hFn⟩
      replace hF := hF.trans hFn
      clear hFn
      clear hC1
      have hl2 := hC2.lt
      go_wp2
      go_ret
      exact ⟨s2, hs2, rfl, hC2, hF⟩
  · have h0' : ¬ (0 : Int) < L.length := by omega
    go_enter Tryz.func98, Tryz.ntmps98
    go_wp2_with fail
    refine (of_lit pb A c l (N) [⟨#[112, 49]⟩, ⟨#[120, 57]⟩, ⟨#[]⟩] 3 rfl 1048576 (List.forall_mem_cons.2 ⟨(by decide), (List.forall_mem_cons.2 ⟨(by decide), (List.forall_mem_cons.2 ⟨(by decide), (fun _ h => nomatch h)⟩)⟩)⟩) _ _ _ _ (by simp) rfl hC (by omega) (by simp) (by simp)).mono ?_
    rintro e w1 ⟨s2, hs2, rfl, hC1, hFn⟩
    replace hF := hF.trans hFn
    clear hFn
    have hl1 := hC1.lt
    go_wp2
    go_ret
    exact ⟨s2, hs2, rfl, hC1.more (by omega), hF⟩
end Go.Proofs.YtjmjilkpckbpeaaGreatDoor

/- The Draw functions over channels: what they return, and that older blocks stay. No conditions. -/
import Derived.Test.YtacjdapfbmdddaaDrwN
import Derived.Test.YtacjdapfbmdddaaByt
namespace Go.Proofs.Ytacjdapfbmdddaa
open Go.RowKit

/-- A drawn channel in rows of its own. -/
def ChD (base : Nat) (W : World) (A1 : Option Addr) (c1 : Nat) (s : List Msg) (A2 : Option Addr) (c2 : Nat) (r : List Msg) (A3 : Option Addr) (c3 : Nat) (h : List Msg) : Prop := (s.length ≤ 100 ∧ r.length ≤ 100 ∧ h.length ≤ 100) ∧ (sm s ∧ sm r ∧ sm h) ∧ OwnC W base A1 c1 s A2 c2 r A3 c3 h
theorem Cur.away {pb c N g : Nat} {A : Option Addr} {l : List Int} {w w' : World} (h : Cur pb A c l N w) (hF : Fr g (g + 1) w w') (hg : g < pb) (hS : Sl byE 1 w 0 g A l) : Cur pb A c l N w' := by
  have hlt := h.lt
  obtain ⟨p, q, h0, h1, h2, h3, h4, h5⟩ := h.st
  have e := hF.block pb hlt (by omega)
  refine ⟨⟨p, q, (World.cell?_of_block (a := ⟨pb, 0, none⟩) e).trans h0, (World.cell?_of_block (a := ⟨pb, 1, none⟩) e).trans h1, (World.cell?_of_block (a := ⟨pb, 2, none⟩) e).trans h2, (World.frozen?_of_block (a := ⟨pb, 1, none⟩) e).trans h3, (World.frozen?_of_block (a := ⟨pb, 2, none⟩) e).trans h4, h5⟩, ?_, h.byte, h.len⟩
  exact (hS.keep (fun b _ hb => hF.block b (by omega) (by omega)) hF.size).mono (Nat.le_refl _) (by omega) (by have := hF.size; omega)
def lenS : Value → Nat
  | .string s => s.size
  | _ => 0
theorem of_one (pb : Nat) (A : Option Addr) (c : Nat) (l : List Int) (N : Nat) (L : List ByteArray) (d : Nat) (hd : d = L.length) (hm : ∀ s ∈ L, s.size = 1) (W : World) (cs : Array Value) (T : TypeId) (g : Nat) (hg : g = W.heap.size) (hcs : cs = (L.map Value.string).toArray) (hC : Cur pb A c l N W) (hN : N ≤ 1000000000000) (h1 : 0 < L.length) (h2 : L.length ≤ 1048576) :
    Calls Try.prog 45 #[.pointer (some ⟨pb, 0, none⟩), .slice (some ⟨g, 0, none⟩) d d] (W.alloc (.cells cs T)) fun e w' => ∃ s : ByteArray, s.size = 1 ∧ e = .returned (.string s) ∧ Cur pb A c l (N + 2) w' ∧ Fr pb (pb + 1) W w' := by
  have hS := strs_lit W L cs T g hg hcs
  subst hd
  refine (of_any pb A c l N _ L.length _ _ L _ (hC.alloc _) hN hS (.inr hC.lt) h1 h2).mono ?_
  rintro e w' ⟨v, rfl, ⟨k, hk, rfl⟩, hC', hF⟩
  exact ⟨k, hm k hk, rfl, hC', ((Fr.refl _ _ _).alloc _).trans hF⟩
/-- A plan being drawn: the channel's box, its rows, the result's box, the cursor. -/
structure RD (w : World) (bx : Nat) (A : Option Addr) (c : Nat) (l : List Int) (N : Nat) (A1 : Option Addr) (c1 : Nat) (s : List Msg) (A2 : Option Addr) (c2 : Nat) (r : List Msg) (A3 : Option Addr) (c3 : Nat) (h : List Msg) (zs : List Value) (W : World) : Prop where
  x : BN bx [.slice A1 s.length c1, .slice A2 r.length c2, .slice A3 h.length c3] W
  o : OwnC W (w.heap.size + 2) A1 c1 s A2 c2 r A3 c3 h
  z : BN w.heap.size zs W
  cur : Cur (w.heap.size + 1) A c l N W
  cd : Sl byE 1 W 0 w.heap.size A l
  b : Below w.heap.size w W
  hx : w.heap.size + 2 ≤ bx
section
variable {w W W' : World} {bx c N M : Nat} {A : Option Addr} {l : List Int} {A1 : Option Addr} {c1 : Nat} {s : List Msg} {A2 : Option Addr} {c2 : Nat} {r : List Msg} {A3 : Option Addr} {c3 : Nat} {h : List Msg} {zs : List Value}
theorem RD.step (q : RD w bx A c l N A1 c1 s A2 c2 r A3 c3 h zs W) (hz : zs ≠ []) (hF : Fr (w.heap.size + 1) (w.heap.size + 1 + 1) W W') (hC : Cur (w.heap.size + 1) A c l M W') : RD w bx A c l M A1 c1 s A2 c2 r A3 c3 h zs W' :=
  ⟨q.x.fr hF (by simp) (.inr (by have := q.hx; omega)), q.o.far hF (by omega), q.z.fr hF hz (.inl (by omega)), hC, q.cd.keep (fun b _ hb => hF.block b (by have := q.b.size; omega) (by omega)) hF.size, q.b.trans (hF.below (B := w.heap.size) (by omega) q.b.size), q.hx⟩
theorem RD.below (q : RD w bx A c l N A1 c1 s A2 c2 r A3 c3 h zs W) (hz : zs ≠ []) (hb : Below W.heap.size W W') : RD w bx A c l N A1 c1 s A2 c2 r A3 c3 h zs W' :=
  ⟨q.x.below (by simp) hb, q.o.below hb, q.z.below hz hb, q.cur.below hb, q.cd.keep (fun b _ h => hb.block b (by have := q.b.size; omega)) hb.size, Below.on' q.b hb, q.hx⟩
theorem RD.more (q : RD w bx A c l N A1 c1 s A2 c2 r A3 c3 h zs W) (hM : N ≤ M) : RD w bx A c l M A1 c1 s A2 c2 r A3 c3 h zs W := ⟨q.x, q.o, q.z, q.cur.more hM, q.cd, q.b, q.hx⟩
theorem RD.store {z0 z1 z2 : Value} (q : RD w bx A c l N A1 c1 s A2 c2 r A3 c3 h [z0, z1, z2] W) : RD w bx A c l N A1 c1 s A2 c2 r A3 c3 h [.slice A1 s.length c1, .slice A2 r.length c2, .slice A3 h.length c3] (((W.setCell ⟨w.heap.size, 0, none⟩ (.slice A1 s.length c1)).setCell ⟨w.heap.size, 1, none⟩ (.slice A2 r.length c2)).setCell ⟨w.heap.size, 2, none⟩ (.slice A3 h.length c3)) :=
  have hF : Fr w.heap.size (w.heap.size + 1) W (((W.setCell ⟨w.heap.size, 0, none⟩ (.slice A1 s.length c1)).setCell ⟨w.heap.size, 1, none⟩ (.slice A2 r.length c2)).setCell ⟨w.heap.size, 2, none⟩ (.slice A3 h.length c3)) := ((((Fr.refl w.heap.size (w.heap.size + 1) W).setCell (p := ⟨w.heap.size, 0, none⟩) ⟨Nat.le_refl _, Nat.lt_succ_self _⟩ _).setCell (p := ⟨w.heap.size, 1, none⟩) ⟨Nat.le_refl _, Nat.lt_succ_self _⟩ _).setCell (p := ⟨w.heap.size, 2, none⟩) ⟨Nat.le_refl _, Nat.lt_succ_self _⟩ _)
  ⟨q.x.fr hF (by simp) (.inr (by have := q.hx; omega)), q.o.far hF (by omega), ((q.z.put (i := 0) rfl _).put (i := 1) rfl _).put (i := 2) rfl _, q.cur.away hF (Nat.lt_succ_self _) q.cd, q.cd.keep (fun b _ hb => hF.block b (by have := q.b.size; omega) (by omega)) hF.size, q.b.trans (hF.below (B := w.heap.size) (Nat.le_refl _) q.b.size), q.hx⟩
end
set_option maxRecDepth 100000 in
set_option maxHeartbeats 8000000 in
theorem DrawLastOf_any (A : Option Addr) (c : Nat) (l : List Int) (w : World) (hl : l.length ≤ maxLen) (hm : ∀ x ∈ l, 0 ≤ x ∧ x ≤ 255) (hS : Sl byE 1 w 0 w.heap.size A l) :
    Calls Try.prog 34 #[.slice A l.length c] w fun e w' => ∃ (A1 : Option Addr) (c1 : Nat) (s : List Msg) (A2 : Option Addr) (c2 : Nat) (r : List Msg) (A3 : Option Addr) (c3 : Nat) (h : List Msg) (f : ByteArray), e = .returned (.tuple #[.agg #[.slice A1 s.length c1, .slice A2 r.length c2, .slice A3 h.length c3], .string f]) ∧ f.size ≤ 7 ∧ ChD w.heap.size w' A1 c1 s A2 c2 r A3 c3 h ∧ Below w.heap.size w w' := by
  have hS0 := (hS.alloc (.cells #[.slice none 0 0, .slice none 0 0, .slice none 0 0] 26)).all
  have hC0 := Cur.new (w.alloc (.cells #[.slice none 0 0, .slice none 0 0, .slice none 0 0] 26)) A c l 49 (w.heap.size + 1) (by simp) hS0 hm hl
  have hR : BN w.heap.size [.slice none 0 0, .slice none 0 0, .slice none 0 0] ((w.alloc (.cells #[.slice none 0 0, .slice none 0 0, .slice none 0 0] 26)).alloc (.cells #[.slice A l.length c, .int .i64 0, .int .u64 0] 49)) := (BN.new w #[.slice none 0 0, .slice none 0 0, .slice none 0 0] 26 w.heap.size rfl).below (by simp) ((Below.refl _ _).alloc (Nat.le_refl _) (.cells #[.slice A l.length c, .int .i64 0, .int .u64 0] 49))
  have hB : Below w.heap.size w ((w.alloc (.cells #[.slice none 0 0, .slice none 0 0, .slice none 0 0] 26)).alloc (.cells #[.slice A l.length c, .int .i64 0, .int .u64 0] 49)) := by go_grown
  have hz : w.heap.size + 2 ≤ ((w.alloc (.cells #[.slice none 0 0, .slice none 0 0, .slice none 0 0] 26)).alloc (.cells #[.slice A l.length c, .int .i64 0, .int .u64 0] 49)).heap.size := by simp
  clear hS0 hl hm
  go_enter Try.func34, Try.ntmps34
  go_wp2_with fail
  refine (channel_any (w.heap.size + 1) A c l 0 _ hC0 (by omega)).mono ?_
  rintro e w1 ⟨A1, c1, s, A2, c2, r, A3, c3, h, rfl, hl1, hm1, hO, hC1, hFn⟩
  replace hO := hO.lift hz
  replace hR := hR.fr hFn (by simp) (.inl (by omega))
  replace hB := hB.trans (hFn.below (B := w.heap.size) (by omega) hB.size)
  replace hz := Nat.le_trans hz hFn.size
  clear hFn hC0
  go_wp2_with fail
  refine (crewName_any (w.heap.size + 1) A c l (0 + 600) _ hC1 (by omega)).mono ?_
  rintro e w2 ⟨f, hf, rfl, hC2, hFn⟩
  replace hO := hO.far hFn (by omega)
  replace hR := hR.fr hFn (by simp) (.inl (by omega))
  replace hB := hB.trans (hFn.below (B := w.heap.size) (by omega) hB.size)
  replace hz := Nat.le_trans hz hFn.size
  clear hFn hC1
  have k0 := (hR 0 _ rfl).1
  have k1 := (hR 1 _ rfl).1
  have k2 := (hR 2 _ rfl).1
  have f0 := (hR 0 _ rfl).2
  have f1 := (hR 1 _ rfl).2
  have f2 := (hR 2 _ rfl).2
  have hF4 : Fr w.heap.size (w.heap.size + 1) w2 (((w2.setCell ⟨w.heap.size, 0, none⟩ (.slice A1 s.length c1)).setCell ⟨w.heap.size, 1, none⟩ (.slice A2 r.length c2)).setCell ⟨w.heap.size, 2, none⟩ (.slice A3 h.length c3)) := ((((Fr.refl w.heap.size (w.heap.size + 1) w2).setCell (p := ⟨w.heap.size, 0, none⟩) ⟨Nat.le_refl _, Nat.lt_succ_self _⟩ _).setCell (p := ⟨w.heap.size, 1, none⟩) ⟨Nat.le_refl _, Nat.lt_succ_self _⟩ _).setCell (p := ⟨w.heap.size, 2, none⟩) ⟨Nat.le_refl _, Nat.lt_succ_self _⟩ _)
  have hR' := ((hR.put (i := 0) rfl (.slice A1 s.length c1)).put (i := 1) rfl (.slice A2 r.length c2)).put (i := 2) rfl (.slice A3 h.length c3)
  have z0 := (hR' 0 _ rfl).1
  have z1 := (hR' 1 _ rfl).1
  have z2 := (hR' 2 _ rfl).1
  have hO' := (hO.far hF4 (by omega)).lift (b0 := w.heap.size) (by omega)
  have hB' := hB.trans (hF4.below (B := w.heap.size) (Nat.le_refl _) hB.size)
  clear hF4 hR' hR
  go_wp2
  refine bodyPost_ret (by simp [results, Try.results34, go_sem, z0, z1, z2]; try rfl) rfl ?_
  exact ⟨A1, c1, s, A2, c2, r, A3, c3, h, f, rfl, hf, ⟨hl1, hm1, hO'⟩, hB'⟩
set_option maxRecDepth 100000 in
set_option maxHeartbeats 8000000 in
theorem DrawSendMessage_any (A : Option Addr) (c : Nat) (l : List Int) (w : World) (hl : l.length ≤ maxLen) (hm : ∀ x ∈ l, 0 ≤ x ∧ x ≤ 255) (hS : Sl byE 1 w 0 w.heap.size A l) :
    Calls Try.prog 5 #[.slice A l.length c] w fun e w' => ∃ (A1 : Option Addr) (c1 : Nat) (s : List Msg) (A2 : Option Addr) (c2 : Nat) (r : List Msg) (A3 : Option Addr) (c3 : Nat) (h : List Msg) (f b : ByteArray), e = .returned (.tuple #[.agg #[.slice A1 s.length c1, .slice A2 r.length c2, .slice A3 h.length c3], .string f, .string b]) ∧ f.size ≤ 7 ∧ b.size ≤ 13 ∧ ChD w.heap.size w' A1 c1 s A2 c2 r A3 c3 h ∧ Below w.heap.size w w' := by
  have hS0 := (hS.alloc (.cells #[.slice none 0 0, .slice none 0 0, .slice none 0 0] 26)).all
  have hC0 := Cur.new (w.alloc (.cells #[.slice none 0 0, .slice none 0 0, .slice none 0 0] 26)) A c l 49 (w.heap.size + 1) (by simp) hS0 hm hl
  have hR : BN w.heap.size [.slice none 0 0, .slice none 0 0, .slice none 0 0] ((w.alloc (.cells #[.slice none 0 0, .slice none 0 0, .slice none 0 0] 26)).alloc (.cells #[.slice A l.length c, .int .i64 0, .int .u64 0] 49)) := (BN.new w #[.slice none 0 0, .slice none 0 0, .slice none 0 0] 26 w.heap.size rfl).below (by simp) ((Below.refl _ _).alloc (Nat.le_refl _) (.cells #[.slice A l.length c, .int .i64 0, .int .u64 0] 49))
  have hB : Below w.heap.size w ((w.alloc (.cells #[.slice none 0 0, .slice none 0 0, .slice none 0 0] 26)).alloc (.cells #[.slice A l.length c, .int .i64 0, .int .u64 0] 49)) := by go_grown
  have hz : w.heap.size + 2 ≤ ((w.alloc (.cells #[.slice none 0 0, .slice none 0 0, .slice none 0 0] 26)).alloc (.cells #[.slice A l.length c, .int .i64 0, .int .u64 0] 49)).heap.size := by simp
  clear hS0 hl hm
  go_enter Try.func5, Try.ntmps5
  go_wp2_with fail
  refine (channel_any (w.heap.size + 1) A c l 0 _ hC0 (by omega)).mono ?_
  rintro e w1 ⟨A1, c1, s, A2, c2, r, A3, c3, h, rfl, hl1, hm1, hO, hC1, hFn⟩
  replace hO := hO.lift hz
  replace hR := hR.fr hFn (by simp) (.inl (by omega))
  replace hB := hB.trans (hFn.below (B := w.heap.size) (by omega) hB.size)
  replace hz := Nat.le_trans hz hFn.size
  clear hFn hC0
  go_wp2_with fail
  refine (crewName_any (w.heap.size + 1) A c l (0 + 600) _ hC1 (by omega)).mono ?_
  rintro e w2 ⟨f, hf, rfl, hC2, hFn⟩
  replace hO := hO.far hFn (by omega)
  replace hR := hR.fr hFn (by simp) (.inl (by omega))
  replace hB := hB.trans (hFn.below (B := w.heap.size) (by omega) hB.size)
  replace hz := Nat.le_trans hz hFn.size
  clear hFn hC1
  go_wp2_with fail
  refine (bodyOf_any (w.heap.size + 1) A c l (0 + 600 + 4) _ hC2 (by omega)).mono ?_
  rintro e w3 ⟨b, hb, rfl, hC3, hFn⟩
  replace hO := hO.far hFn (by omega)
  replace hR := hR.fr hFn (by simp) (.inl (by omega))
  replace hB := hB.trans (hFn.below (B := w.heap.size) (by omega) hB.size)
  replace hz := Nat.le_trans hz hFn.size
  clear hFn hC2
  have k0 := (hR 0 _ rfl).1
  have k1 := (hR 1 _ rfl).1
  have k2 := (hR 2 _ rfl).1
  have f0 := (hR 0 _ rfl).2
  have f1 := (hR 1 _ rfl).2
  have f2 := (hR 2 _ rfl).2
  have hF4 : Fr w.heap.size (w.heap.size + 1) w3 (((w3.setCell ⟨w.heap.size, 0, none⟩ (.slice A1 s.length c1)).setCell ⟨w.heap.size, 1, none⟩ (.slice A2 r.length c2)).setCell ⟨w.heap.size, 2, none⟩ (.slice A3 h.length c3)) := ((((Fr.refl w.heap.size (w.heap.size + 1) w3).setCell (p := ⟨w.heap.size, 0, none⟩) ⟨Nat.le_refl _, Nat.lt_succ_self _⟩ _).setCell (p := ⟨w.heap.size, 1, none⟩) ⟨Nat.le_refl _, Nat.lt_succ_self _⟩ _).setCell (p := ⟨w.heap.size, 2, none⟩) ⟨Nat.le_refl _, Nat.lt_succ_self _⟩ _)
  have hR' := ((hR.put (i := 0) rfl (.slice A1 s.length c1)).put (i := 1) rfl (.slice A2 r.length c2)).put (i := 2) rfl (.slice A3 h.length c3)
  have z0 := (hR' 0 _ rfl).1
  have z1 := (hR' 1 _ rfl).1
  have z2 := (hR' 2 _ rfl).1
  have hO' := (hO.far hF4 (by omega)).lift (b0 := w.heap.size) (by omega)
  have hB' := hB.trans (hF4.below (B := w.heap.size) (Nat.le_refl _) hB.size)
  clear hF4 hR' hR
  go_wp2
  refine bodyPost_ret (by simp [results, Try.results5, go_sem, z0, z1, z2]; try rfl) rfl ?_
  exact ⟨A1, c1, s, A2, c2, r, A3, c3, h, f, b, rfl, hf, hb, ⟨hl1, hm1, hO'⟩, hB'⟩
set_option maxRecDepth 100000 in
set_option maxHeartbeats 8000000 in
theorem DrawInOrder_any (A : Option Addr) (c : Nat) (l : List Int) (w : World) (hl : l.length ≤ maxLen) (hm : ∀ x ∈ l, 0 ≤ x ∧ x ≤ 255) (hS : Sl byE 1 w 0 w.heap.size A l) :
    Calls Try.prog 10 #[.slice A l.length c] w fun e w' => ∃ (A1 : Option Addr) (c1 : Nat) (s : List Msg) (A2 : Option Addr) (c2 : Nat) (r : List Msg) (A3 : Option Addr) (c3 : Nat) (h : List Msg) (f : ByteArray), e = .returned (.tuple #[.agg #[.slice A1 s.length c1, .slice A2 r.length c2, .slice A3 h.length c3], .string f]) ∧ f.size ≤ 7 ∧ ChD w.heap.size w' A1 c1 s A2 c2 r A3 c3 h ∧ Below w.heap.size w w' := by
  have hR : BN w.heap.size [.slice none 0 0, .slice none 0 0, .slice none 0 0] (w.alloc (.cells #[.slice none 0 0, .slice none 0 0, .slice none 0 0] 26)) := BN.new w #[.slice none 0 0, .slice none 0 0, .slice none 0 0] 26 w.heap.size rfl
  have hB : Below w.heap.size w (w.alloc (.cells #[.slice none 0 0, .slice none 0 0, .slice none 0 0] 26)) := by go_grown
  have hS0 := (hS.alloc (.cells #[.slice none 0 0, .slice none 0 0, .slice none 0 0] 26)).all
  have hz : w.heap.size + 1 = (w.alloc (.cells #[.slice none 0 0, .slice none 0 0, .slice none 0 0] 26)).heap.size := by simp
  go_enter Try.func10, Try.ntmps10
  go_wp2_with fail
  refine (DrawLastOf_any A c l _ hl hm hS0).mono ?_
  rintro e w1 ⟨A1, c1, s, A2, c2, r, A3, c3, h, f, rfl, hf, ⟨hl1, hm1, hO⟩, hb⟩
  replace hR := hR.below (by simp) hb
  replace hB := Below.on' hB hb
  rw [← hz] at hO
  clear hb hS hS0 hz hl hm
  have k0 := (hR 0 _ rfl).1
  have k1 := (hR 1 _ rfl).1
  have k2 := (hR 2 _ rfl).1
  have f0 := (hR 0 _ rfl).2
  have f1 := (hR 1 _ rfl).2
  have f2 := (hR 2 _ rfl).2
  have hF4 : Fr w.heap.size (w.heap.size + 1) w1 (((w1.setCell ⟨w.heap.size, 0, none⟩ (.slice A1 s.length c1)).setCell ⟨w.heap.size, 1, none⟩ (.slice A2 r.length c2)).setCell ⟨w.heap.size, 2, none⟩ (.slice A3 h.length c3)) := ((((Fr.refl w.heap.size (w.heap.size + 1) w1).setCell (p := ⟨w.heap.size, 0, none⟩) ⟨Nat.le_refl _, Nat.lt_succ_self _⟩ _).setCell (p := ⟨w.heap.size, 1, none⟩) ⟨Nat.le_refl _, Nat.lt_succ_self _⟩ _).setCell (p := ⟨w.heap.size, 2, none⟩) ⟨Nat.le_refl _, Nat.lt_succ_self _⟩ _)
  have hR' := ((hR.put (i := 0) rfl (.slice A1 s.length c1)).put (i := 1) rfl (.slice A2 r.length c2)).put (i := 2) rfl (.slice A3 h.length c3)
  have z0 := (hR' 0 _ rfl).1
  have z1 := (hR' 1 _ rfl).1
  have z2 := (hR' 2 _ rfl).1
  have hO' := (hO.far hF4 (by omega)).lift (b0 := w.heap.size) (by omega)
  have hB' := hB.trans (hF4.below (B := w.heap.size) (Nat.le_refl _) hB.size)
  clear hF4 hR' hR
  go_wp2
  refine bodyPost_ret (by simp [results, Try.results10, go_sem, z0, z1, z2]; try rfl) rfl ?_
  exact ⟨A1, c1, s, A2, c2, r, A3, c3, h, f, rfl, hf, ⟨hl1, hm1, hO'⟩, hB'⟩
set_option maxRecDepth 100000 in
set_option maxHeartbeats 8000000 in
theorem DrawRunDeliveries_any (A : Option Addr) (c : Nat) (l : List Int) (w : World) (hl : l.length ≤ maxLen) (hm : ∀ x ∈ l, 0 ≤ x ∧ x ≤ 255) (hS : Sl byE 1 w 0 w.heap.size A l) :
    Calls Try.prog 20 #[.slice A l.length c] w fun e w' => ∃ (A1 : Option Addr) (c1 : Nat) (s : List Msg) (A2 : Option Addr) (c2 : Nat) (r : List Msg) (A3 : Option Addr) (c3 : Nat) (h : List Msg) (p : ByteArray), e = .returned (.tuple #[.agg #[.slice A1 s.length c1, .slice A2 r.length c2, .slice A3 h.length c3], .string p]) ∧ p.size ≤ 100 ∧ ChD w.heap.size w' A1 c1 s A2 c2 r A3 c3 h ∧ Below w.heap.size w w' := by
  have hS0 := (hS.alloc (.cells #[.slice none 0 0, .slice none 0 0, .slice none 0 0] 26)).all
  have hC0 := Cur.new (w.alloc (.cells #[.slice none 0 0, .slice none 0 0, .slice none 0 0] 26)) A c l 49 (w.heap.size + 1) (by simp) hS0 hm hl
  have hR : BN w.heap.size [.slice none 0 0, .slice none 0 0, .slice none 0 0] ((w.alloc (.cells #[.slice none 0 0, .slice none 0 0, .slice none 0 0] 26)).alloc (.cells #[.slice A l.length c, .int .i64 0, .int .u64 0] 49)) := (BN.new w #[.slice none 0 0, .slice none 0 0, .slice none 0 0] 26 w.heap.size rfl).below (by simp) ((Below.refl _ _).alloc (Nat.le_refl _) (.cells #[.slice A l.length c, .int .i64 0, .int .u64 0] 49))
  have hB : Below w.heap.size w ((w.alloc (.cells #[.slice none 0 0, .slice none 0 0, .slice none 0 0] 26)).alloc (.cells #[.slice A l.length c, .int .i64 0, .int .u64 0] 49)) := by go_grown
  have hz : w.heap.size + 2 ≤ ((w.alloc (.cells #[.slice none 0 0, .slice none 0 0, .slice none 0 0] 26)).alloc (.cells #[.slice A l.length c, .int .i64 0, .int .u64 0] 49)).heap.size := by simp
  clear hS0 hl hm
  go_enter Try.func20, Try.ntmps20
  go_wp2_with fail
  refine (channel_any (w.heap.size + 1) A c l 0 _ hC0 (by omega)).mono ?_
  rintro e w1 ⟨A1, c1, s, A2, c2, r, A3, c3, h, rfl, hl1, hm1, hO, hC1, hFn⟩
  replace hO := hO.lift hz
  replace hR := hR.fr hFn (by simp) (.inl (by omega))
  replace hB := hB.trans (hFn.below (B := w.heap.size) (by omega) hB.size)
  replace hz := Nat.le_trans hz hFn.size
  clear hFn hC0
  have hcd : Sl byE 1 w1 0 w.heap.size A l := hS.keep (fun b _ hb => hB.block b hb) hB.size
  have q : RD w w1.heap.size A c l 600 A1 c1 s A2 c2 r A3 c3 h [.slice none 0 0, .slice none 0 0, .slice none 0 0] (w1.alloc (.cells #[.slice A1 s.length c1, .slice A2 r.length c2, .slice A3 h.length c3] 26)) := ⟨BN.new w1 #[.slice A1 s.length c1, .slice A2 r.length c2, .slice A3 h.length c3] 26 _ rfl, hO.below ((Below.refl _ _).alloc (Nat.le_refl _) _), hR.below (by simp) ((Below.refl _ _).alloc (Nat.le_refl _) _), (hC1.more (by omega)).alloc _, hcd.keep (fun b _ hb => ((Below.refl w1.heap.size w1).alloc (Nat.le_refl _) _).block b (by omega)) (by simp), hB.alloc hB.size _, hz⟩
  clear hcd hO hR hC1 hB hS
  go_wp2_with fail
  generalize w1.heap.size = bx at q ⊢
  refine (pick_any (w.heap.size + 1) A c l 600 12 _ q.cur (by omega) (by omega)).mono ?_
  rintro e w2 ⟨_, rfl, ⟨k1, rfl, hk1⟩, hC1, hFn⟩
  replace q := q.step (by simp) hFn hC1
  have hk1' : k1 ≤ 62 := by omega
  clear hFn hC1 hk1
  go_wp2_with fail
  refine (one_any (w.heap.size + 1) A c l (600 + 2) 12 _ q.cur (by omega) (by omega)).mono ?_
  rintro e w3 ⟨_, rfl, ⟨b, rfl⟩, hC1, hFn⟩
  replace q := q.step (by simp) hFn hC1
  clear hFn hC1
  go_upto_if 16 with fail
  go_cut [7] from 8 (fun n wx => ∃ k : Nat, n = .int .i64 k ∧ k ≤ 62 ∧ RD w bx A c l 610 A1 c1 s A2 c2 r A3 c3 h [.slice none 0 0, .slice none 0 0, .slice none 0 0] wx)
  case first =>
    cases b with
    | false =>
      go_wp2_with fail
      go_meet
      exact ⟨k1, rfl, hk1', q.more (by omega)⟩
    | true =>
      go_wp2_with fail
      refine (pick_any (w.heap.size + 1) A c l (600 + 2 + 2) 2 _ q.cur (by omega) (by omega)).mono ?_
      rintro e w4 ⟨_, rfl, ⟨k2, rfl, hk2⟩, hC1, hFn⟩
      replace q := q.step (by simp) hFn hC1
      have hk2' : k2 ≤ 2 := by omega
      clear hFn hC1 hk2
      go_wp2_with fail
      go_meet
      exact ⟨60 + k2, by first | go_num | (congr 1; omega), by omega, q.more (by omega)⟩
  case rest =>
    clear q hk1'
    obtain ⟨k, rfl, hk, q⟩ := hcut
    go_wp2_with fail
    go_loopw [6] (fun v wr => ∃ u : ByteArray, v = .string u ∧ u.size ≤ 62 ∧ RD w bx A c l (610 + 2 * u.size) A1 c1 s A2 c2 r A3 c3 h [.slice none 0 0, .slice none 0 0, .slice none 0 0] wr) (fun v _ => 63 - lenS v)
    case atStart => exact ⟨⟨#[]⟩, rfl, Nat.zero_le _, q⟩
    case round =>
      clear q
      obtain ⟨u, rfl, hu, q⟩ := hrel
      by_cases hlt : u.size < k
      · have hlt' : (u.size : Int) < (k : Int) := by omega
        go_wp2_with fail
        refine (of_one (w.heap.size + 1) A c l (610 + 2 * u.size) [⟨#[97]⟩, ⟨#[98]⟩, ⟨#[99]⟩, ⟨#[100]⟩, ⟨#[65]⟩, ⟨#[66]⟩, ⟨#[67]⟩, ⟨#[122]⟩, ⟨#[90]⟩] 9 rfl (by decide) _ _ _ _ (by simp) rfl q.cur (by omega) (by simp) (by simp)).mono ?_
        rintro e w5 ⟨y, hy, rfl, hC1, hFn⟩
        have q5 := q.step (by simp) hFn hC1
        clear q hFn hC1
        go_wp2_with fail
        go_roundw
        case rel => exact ⟨u ++ y, rfl, by rw [ByteArray.size_append]; omega, q5.more (by rw [ByteArray.size_append]; omega)⟩
        case measure => simp [lenS, ByteArray.size_append]; omega
      · have hlt' : ¬ (u.size : Int) < (k : Int) := by omega
        obtain ⟨N0, hN0⟩ : ∃ N0, N0 = 610 + 2 * u.size := ⟨_, rfl⟩
        have hN1 : N0 ≤ 800 := by omega
        rw [← hN0] at q
        clear hN0
        go_wp2_with fail
        refine (one_any (w.heap.size + 1) A c l N0 24 _ q.cur (by omega) (by omega)).mono ?_
        rintro e w5 ⟨_, rfl, ⟨b2, rfl⟩, hC1, hFn⟩
        replace q := q.step (by simp) hFn hC1
        clear hFn hC1 hlt hlt'
        cases b2 with
        | false =>
          obtain ⟨b0, b1, b2⟩ : _ ∧ _ ∧ _ := ⟨(q.x 0 _ rfl).1, (q.x 1 _ rfl).1, (q.x 2 _ rfl).1⟩
          have k0 := (q.z 0 _ rfl).1
          have k1 := (q.z 1 _ rfl).1
          have k2 := (q.z 2 _ rfl).1
          have f0 := (q.z 0 _ rfl).2
          have f1 := (q.z 1 _ rfl).2
          have f2 := (q.z 2 _ rfl).2
          have q9 := q.store
          have z0 := (q9.z 0 _ rfl).1
          have z1 := (q9.z 1 _ rfl).1
          have z2 := (q9.z 2 _ rfl).1
          go_wp2
          refine bodyPost_ret (by simp [results, Try.results20, go_sem, z0, z1, z2]; try rfl) rfl ?_
          exact ⟨A1, c1, s, A2, c2, r, A3, c3, h, u, rfl, by omega, ⟨hl1, hm1, q9.o.lift (by omega)⟩, q9.b⟩
        | true =>
          go_upto_region 10 with fail
          have q1_ := q.below (by simp) (Below.refl _ _).drew
          refine wp_region_held_drew (S := (fun w' => w'.cell? ⟨bx, 0, none⟩ = some (.slice A1 s.length c1) ∧ w'.cell? ⟨bx, 1, none⟩ = some (.slice A2 r.length c2) ∧ w'.cell? ⟨bx, 2, none⟩ = some (.slice A3 h.length c3))) (by kernel_rfl) ⟨(q1_.x 0 _ rfl).1, (q1_.x 1 _ rfl).1, (q1_.x 2 _ rfl).1⟩ (fun hHeld => ?_)
          clear hHeld q
          generalize w5.drew = V0 at q1_ ⊢
          have q0 := q1_
          clear q1_
          change wpAnyH _ _ _ _ _ 8 #[false, false, false, false, false, false, false, false] _ _
          refine wpAnyH_takeL (i := 0) (v := .agg #[.slice A1 s.length c1, .slice A2 r.length c2, .slice A3 h.length c3]) rfl (by kernel_rfl) (by kernel_rfl) (by kernel_rfl) (fun _ _ _ h => h) (Or.inl ⟨by rfl, fun w' hSw => by obtain ⟨z0, z1, z2⟩ := hSw; go_simp⟩) ⟨(q0.x 0 _ rfl).1, (q0.x 1 _ rfl).1, (q0.x 2 _ rfl).1⟩ ?_
          simp only [Act.put, List.setIfInBounds_toArray, List.set_cons_zero, List.set_cons_succ]
          refine wpAnyH_takeL (i := 1) (v := .string u) rfl (by kernel_rfl) (by kernel_rfl) (by kernel_rfl) (fun _ _ _ h => h) (Or.inl ⟨by rfl, fun w' hSw => by obtain ⟨z0, z1, z2⟩ := hSw; go_simp⟩) ⟨(q0.x 0 _ rfl).1, (q0.x 1 _ rfl).1, (q0.x 2 _ rfl).1⟩ ?_
          simp only [Act.put, List.setIfInBounds_toArray, List.set_cons_zero, List.set_cons_succ]
          refine wpAnyH_takeL (i := 2) (v := .pointer (some ⟨w.heap.size + 1, 0, none⟩)) rfl (by kernel_rfl) (by kernel_rfl) (by kernel_rfl) (fun _ _ _ h => h) (Or.inl ⟨by rfl, fun w' hSw => by obtain ⟨z0, z1, z2⟩ := hSw; go_simp⟩) ⟨(q0.x 0 _ rfl).1, (q0.x 1 _ rfl).1, (q0.x 2 _ rfl).1⟩ ?_
          simp only [Act.put, List.setIfInBounds_toArray, List.set_cons_zero, List.set_cons_succ]
          refine wpAnyH_ready (rs := [3]) (by kernel_rfl) (by simp) ?_
          refine AllReadyH.consL rfl (fun K hK => ?_) AllReadyH.nil
          go_simp
          have q1 := q0.below (by simp) ((Below.refl V0.heap.size V0).alloc (Nat.le_refl _) (.cells #[.string ⟨#[49]⟩, .string ⟨#[32]⟩, .string ⟨#[45]⟩] 9))
          refine hK.out _ _ ⟨(q1.x 0 _ rfl).1, (q1.x 1 _ rfl).1, (q1.x 2 _ rfl).1⟩ (fun _ => ?_)
          clear hK K
          simp only [List.setIfInBounds_toArray, List.set_cons_zero, List.set_cons_succ]
          have hLL := strs_lit V0 [⟨#[49]⟩, ⟨#[32]⟩, ⟨#[45]⟩] #[.string ⟨#[49]⟩, .string ⟨#[32]⟩, .string ⟨#[45]⟩] 9 _ rfl (by simp)
          obtain ⟨g, hg⟩ : ∃ g, g = V0.heap.size := ⟨_, rfl⟩
          rw [← hg] at hLL ⊢
          have hgp : w.heap.size + 1 < g := by have := q0.cur.lt; omega
          clear q0 hg
          generalize V0.alloc (.cells #[.string ⟨#[49]⟩, .string ⟨#[32]⟩, .string ⟨#[45]⟩] 9) = V1 at q1 hLL ⊢
          refine wpAnyH_ready (rs := [4]) (by kernel_rfl) (by simp) ?_
          refine AllReadyH.consL rfl (fun K hK => ?_) AllReadyH.nil
          go_simp
          refine (of_any (w.heap.size + 1) A c l (N0 + 2) _ 3 _ _ [⟨#[49]⟩, ⟨#[32]⟩, ⟨#[45]⟩] _ q1.cur (by omega) hLL (.inr hgp) (by simp) (by simp)).mono ?_
          rintro e V2 ⟨_, rfl, ⟨y, hy, rfl⟩, hC1, hFn⟩
          have hy1 : y.size = 1 := by simp only [List.mem_cons, List.not_mem_nil, or_false] at hy; rcases hy with rfl | rfl | rfl <;> rfl
          have q2 := q1.step (by simp) hFn hC1
          clear hFn hC1 hLL hy q1
          go_simp
          refine hK.out _ _ ⟨(q2.x 0 _ rfl).1, (q2.x 1 _ rfl).1, (q2.x 2 _ rfl).1⟩ (fun _ => ?_)
          clear hK K
          simp only [List.setIfInBounds_toArray, List.set_cons_zero, List.set_cons_succ]
          refine wpAnyH_takeL (i := 5) (v := .string (u ++ y)) rfl (by kernel_rfl) (by kernel_rfl) (by kernel_rfl) (fun _ _ _ h => h) (Or.inl ⟨by rfl, fun w' hSw => by obtain ⟨z0, z1, z2⟩ := hSw; go_simp <;> omega⟩) ⟨(q2.x 0 _ rfl).1, (q2.x 1 _ rfl).1, (q2.x 2 _ rfl).1⟩ ?_
          simp only [Act.put, List.setIfInBounds_toArray, List.set_cons_zero, List.set_cons_succ]
          refine wpAnyH_ready (rs := [6]) (by kernel_rfl) (by simp) ?_
          refine AllReadyH.consL rfl (fun K hK => ?_) AllReadyH.nil
          obtain ⟨k0, f0⟩ := q2.z 0 _ rfl
          obtain ⟨k1, f1⟩ := q2.z 1 _ rfl
          obtain ⟨k2, f2⟩ := q2.z 2 _ rfl
          go_simp
          clear k0 k1 k2 f0 f1 f2
          have q3 := q2.store
          refine hK.out _ _ ⟨(q3.x 0 _ rfl).1, (q3.x 1 _ rfl).1, (q3.x 2 _ rfl).1⟩ (fun _ => ?_)
          clear hK K
          simp only [List.setIfInBounds_toArray, List.set_cons_zero, List.set_cons_succ]
          clear q2
          generalize (((V2.setCell ⟨w.heap.size, 0, none⟩ (.slice A1 s.length c1)).setCell ⟨w.heap.size, 1, none⟩ (.slice A2 r.length c2)).setCell ⟨w.heap.size, 2, none⟩ (.slice A3 h.length c3)) = V3 at q3 ⊢
          refine wpAnyH_takeL (i := 7) (v := .string (u ++ y)) rfl (by kernel_rfl) (by kernel_rfl) (by kernel_rfl) (fun _ _ _ h => h) (Or.inl ⟨by rfl, fun w' hSw => by obtain ⟨z0, z1, z2⟩ := hSw; go_simp⟩) ⟨(q3.x 0 _ rfl).1, (q3.x 1 _ rfl).1, (q3.x 2 _ rfl).1⟩ ?_
          simp only [Act.put, List.setIfInBounds_toArray, List.set_cons_zero, List.set_cons_succ]
          refine wpAnyH_done (by kernel_rfl) ?_ _
          have z0 := (q3.z 0 _ rfl).1
          have z1 := (q3.z 1 _ rfl).1
          have z2 := (q3.z 2 _ rfl).1
          go_wp2
          refine bodyPost_ret (by simp [results, Try.results20, go_sem, z0, z1, z2]; try rfl) rfl ?_
          exact ⟨A1, c1, s, A2, c2, r, A3, c3, h, u ++ y, rfl, by rw [ByteArray.size_append]; omega, ⟨hl1, hm1, q3.o.lift (by omega)⟩, q3.b⟩
end Go.Proofs.Ytacjdapfbmdddaa

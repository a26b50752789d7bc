/- The reference's cursor over a drawn input: what its steps return. Conditions: at most 2^20 bytes, fewer than 2^40 steps. -/
import Derived.Test.YtjmjilkpckbpeaaGreatDoorLA
import Derived.Laws.BitsLemmas
namespace Go.Proofs.YtjmjilkpckbpeaaGreatDoor
open Go.RowKit

def byE (x : Int) : List Value := [.int .u8 x]
theorem byE_len (x : Int) : (byE x).length = 1 := rfl
/-- A cursor at block pb over the bytes l, at most N steps on. -/
structure Cur (pb : Nat) (A : Option Addr) (c : Nat) (l : List Int) (N : Nat) (w : World) : Prop where
  st : ∃ (p : Nat) (g : Int), w.cell? ⟨pb, 0, none⟩ = some (.slice A l.length c) ∧ w.cell? ⟨pb, 1, none⟩ = some (.int .i64 p) ∧ w.cell? ⟨pb, 2, none⟩ = some (.int .u64 g) ∧ w.frozen? ⟨pb, 1, none⟩ = false ∧ w.frozen? ⟨pb, 2, none⟩ = false ∧ p ≤ N ∧ 0 ≤ g ∧ g < 18446744073709551616
  code : Sl byE 1 w 0 pb A l
  byte : ∀ x ∈ l, 0 ≤ x ∧ x ≤ 255
  len : l.length ≤ maxLen
section
variable {pb N M c B : Nat} {A : Option Addr} {l : List Int} {w w' : World}
theorem Cur.lt (h : Cur pb A c l N w) : pb < w.heap.size := by
  obtain ⟨p, g, h0, _⟩ := h.st
  exact World.block_lt_of_cell? _ _ h0
theorem Cur.upto (h : Cur pb A c l N w) (hB : pb < B) (hb : Below B w w') : Cur pb A c l N w' := by
  obtain ⟨p, g, h0, h1, h2, h3, h4, h5⟩ := h.st
  have e := hb.block pb hB
  refine ⟨⟨p, g, (World.cell?_of_block (a := ⟨pb, 0, none⟩) e).trans h0, (World.cell?_of_block (a := ⟨pb, 1, none⟩) e).trans h1, (World.cell?_of_block (a := ⟨pb, 2, none⟩) e).trans h2, (World.frozen?_of_block (a := ⟨pb, 1, none⟩) e).trans h3, (World.frozen?_of_block (a := ⟨pb, 2, none⟩) e).trans h4, h5⟩, ?_, h.byte, h.len⟩
  exact h.code.keep (fun b _ hb' => hb.block b (by omega)) hb.size
theorem Cur.below (h : Cur pb A c l N w) (hb : Below w.heap.size w w') : Cur pb A c l N w' := h.upto h.lt hb
theorem Cur.alloc (h : Cur pb A c l N w) (o : Obj) : Cur pb A c l N (w.alloc o) := h.below ((Below.refl _ _).alloc (Nat.le_refl _) o)
theorem Cur.drew (h : Cur pb A c l N w) : Cur pb A c l N w.drew := h.below (Below.refl _ _).drew
theorem Cur.more (h : Cur pb A c l N w) (hM : N ≤ M) : Cur pb A c l M w := by
  obtain ⟨p, g, h0, h1, h2, h3, h4, h5, h6⟩ := h.st
  exact ⟨⟨p, g, h0, h1, h2, h3, h4, by omega, h6⟩, h.code, h.byte, h.len⟩
end
/-- The call returned v with p v; only the cursor at pb changed, and it is at most N steps on. -/
def CV (pb : Nat) (A : Option Addr) (c : Nat) (l : List Int) (N : Nat) (w : World) (p : Value → Prop) (e : Ending) (w' : World) : Prop :=
  ∃ v, e = .returned v ∧ p v ∧ Cur pb A c l N w' ∧ Fr pb (pb + 1) w w'
theorem wraps_u64 (n : Int) (h₀ : 0 ≤ n) (h₁ : n < 2 ^ 64) : IntKind.u64.wrap n = n := by
  simp [IntKind.wrap, IntKind.bits, IntKind.signed]; omega
theorem wrap_u64_in (n : Int) : 0 ≤ IntKind.u64.wrap n ∧ IntKind.u64.wrap n < 18446744073709551616 := by
  simp [IntKind.wrap, IntKind.bits, IntKind.signed]; omega
theorem u64_and255 {x : Int} (h₀ : 0 ≤ x) (h₁ : x < 18446744073709551616) : bits .and .u64 x 255 = x % 256 := bits_mask .u64 64 (by decide) wraps_u64 8 (by decide) x h₀ h₁
theorem Cur.step {pb N c : Nat} {A : Option Addr} {l : List Int} {w : World} (h : Cur pb A c l N w) {p : Nat} (h0 : w.cell? ⟨pb, 0, none⟩ = some (.slice A l.length c)) {v1 v2 : Value} (h1 : w.cell? ⟨pb, 1, none⟩ = some v1) (h2 : w.cell? ⟨pb, 2, none⟩ = some v2) (h3 : w.frozen? ⟨pb, 1, none⟩ = false) (h4 : w.frozen? ⟨pb, 2, none⟩ = false) (h5 : p ≤ N) (a b : Nat) (m : Int) :
    Cur pb A c l (N + 1) ((((w.drewN a).setCell ⟨pb, 1, none⟩ (.int .i64 ((p : Int) + 1))).setCell ⟨pb, 2, none⟩ (.int .u64 (IntKind.u64.wrap m))).drewN b) ∧ Fr pb (pb + 1) w ((((w.drewN a).setCell ⟨pb, 1, none⟩ (.int .i64 ((p : Int) + 1))).setCell ⟨pb, 2, none⟩ (.int .u64 (IntKind.u64.wrap m))).drewN b) := by
  have hF : Fr pb (pb + 1) w ((((w.drewN a).setCell ⟨pb, 1, none⟩ (.int .i64 ((p : Int) + 1))).setCell ⟨pb, 2, none⟩ (.int .u64 (IntKind.u64.wrap m))).drewN b) := by
    have h : Fr pb (pb + 1) w (w.drewN a) := ⟨rfl, rfl, rfl, Nat.le_refl _, fun _ _ _ => rfl⟩
    have h := (h.setCell (p := ⟨pb, 1, none⟩) ⟨by simp, by simp⟩ (.int .i64 ((p : Int) + 1))).setCell (p := ⟨pb, 2, none⟩) ⟨by simp, by simp⟩ (.int .u64 (IntKind.u64.wrap m))
    exact ⟨h.os, h.tape, h.output, h.size, h.block⟩
  refine ⟨⟨⟨p + 1, IntKind.u64.wrap m, ?_, ?_, ?_, ?_, ?_, by omega, (wrap_u64_in m).1, (wrap_u64_in m).2⟩, h.code.keep (fun b' _ hb' => hF.block b' (by have := h.lt; omega) (by omega)) hF.size, h.byte, h.len⟩, hF⟩
  · show (((w.drewN a).setCell _ _).setCell _ _).cell? _ = _
    rw [World.cell?_setCell_other _ _ _ _ (by intro e; cases e), World.cell?_setCell_other _ _ _ _ (by intro e; cases e)]; exact h0
  · show (((w.drewN a).setCell _ _).setCell _ _).cell? _ = _
    rw [World.cell?_setCell_other _ _ _ _ (by intro e; cases e)]
    exact World.cell?_setCell_same _ _ _ h1
  · show (((w.drewN a).setCell _ _).setCell _ _).cell? _ = _
    exact World.cell?_setCell_same _ _ _ ((World.cell?_setCell_other _ _ _ _ (by intro e; cases e)).trans h2)
  · show (((w.drewN a).setCell _ _).setCell _ _).frozen? _ = _
    rw [World.frozen?_setCell, World.frozen?_setCell]; exact h3
  · show (((w.drewN a).setCell _ _).setCell _ _).frozen? _ = _
    rw [World.frozen?_setCell, World.frozen?_setCell]; exact h4
set_option maxHeartbeats 4000000 in
theorem next_any (pb : Nat) (A : Option Addr) (c : Nat) (l : List Int) (N : Nat) (w : World) (hC : Cur pb A c l N w) (hN : N ≤ 1099511627776) :
    Calls Tryz.prog 129 #[.pointer (some ⟨pb, 0, none⟩)] w (CV pb A c l (N + 1) w fun v => ∃ k : Int, v = .int .i64 k ∧ 0 ≤ k ∧ k ≤ 255) := by
  obtain ⟨p, g, h0, h1, h2, h3, h4, h5, h6, h7⟩ := hC.st
  have hl := hC.len
  by_cases hlt : p < l.length
  · obtain ⟨x, hx, hxm⟩ := get_lt hlt
    obtain ⟨hx0, hx1⟩ := hC.byte x hxm
    obtain ⟨b, off, rfl, _, hbp, _, hf⟩ := hC.code.at_ hx
    have c0 : w.cell? ⟨b, off + p, none⟩ = some (.int .u8 x) := by have := (hf 0 _ rfl).1; simpa using this
    have hlt' : (p : Int) < l.length := by omega
    have hw1 : wrap64 ((p : Int) + 1) = (p : Int) + 1 := by unfold wrap64; omega
    clear hf hx hxm
    go_enter Tryz.func129, Tryz.ntmps129
    go_wp2_with fail
    go_quiet (fail)
    go_wp2_with fail
    go_quiet (fail)
    go_wp2_with fail
    go_quiet (fail)
    go_wp2_with fail
    go_ret
    obtain ⟨s1, s2⟩ := hC.step h0 h1 h2 h3 h4 h5 _ _ _
    exact ⟨_, rfl, ⟨x, rfl, hx0, hx1⟩, s1, s2⟩
  · have hlt' : ¬ (p : Int) < l.length := by omega
    have hlt2 : ¬ (p : Int) + 1 ≤ l.length := by omega
    have hw1 : wrap64 ((p : Int) + 1) = (p : Int) + 1 := by unfold wrap64; omega
    go_enter Tryz.func129, Tryz.ntmps129
    go_wp2_with fail
    go_quiet (fail)
    go_wp2_with fail
    go_quiet (fail)
    go_wp2_with fail
    go_ret
    obtain ⟨s1, s2⟩ := hC.step h0 h1 h2 h3 h4 h5 _ _ _
    refine ⟨_, rfl, ⟨_, rfl, ?_⟩, s1, s2⟩
    generalize IntKind.u64.wrap (g * 6364136223846793005) = m1
    obtain ⟨m2, m3⟩ := wrap_u64_in (IntKind.u64.wrap m1 + 1442695040888963407)
    rw [u64_and255 (by omega) (by omega)]
    unfold wrap64
    omega
/-- A number from 0 to n - 1 (0 where there is none). -/
def isPick (n : Int) (v : Value) : Prop := ∃ k : Nat, v = .int .i64 k ∧ ((k : Int) < n ∨ k = 0)
theorem isPick_mod {n : Int} (x : Int) (h : 1 < n) : isPick n (.int .i64 (x % n)) :=
  ⟨(x % n).toNat, by rw [Int.toNat_of_nonneg (Int.emod_nonneg _ (by omega))], .inl (by rw [Int.toNat_of_nonneg (Int.emod_nonneg _ (by omega))]; exact Int.emod_lt_of_pos _ (by omega))⟩
set_option maxHeartbeats 2000000 in
theorem pick_any (pb : Nat) (A : Option Addr) (c : Nat) (l : List Int) (N : Nat) (n : Int) (w : World) (hC : Cur pb A c l N w) (hN : N ≤ 1000000000000) (hn : n ≤ 9223372036854775807) :
    Calls Tryz.prog 63 #[.pointer (some ⟨pb, 0, none⟩), .int .i64 n] w (CV pb A c l (N + 2) w (isPick n)) := by
  by_cases h1 : n ≤ 1
  · go_enter Tryz.func63, Tryz.ntmps63
    go_wp2
    go_ret
    exact ⟨_, rfl, ⟨0, rfl, .inr rfl⟩, hC.more (by omega), Fr.refl _ _ _⟩
  go_enter Tryz.func63, Tryz.ntmps63
  go_wp2_with fail
  refine (next_any pb A c l N _ hC (by omega)).mono ?_
  rintro e w1 ⟨v, rfl, ⟨k, rfl, k0, k1⟩, hC1, hF1⟩
  by_cases h2 : n > 200
  · go_wp2_with fail
    refine (next_any pb A c l (N + 1) _ hC1 (by omega)).mono ?_
    rintro e w2 ⟨v, rfl, ⟨k', rfl, k0', k1'⟩, hC2, hF2⟩
    have hw1 : wrap64 (k * 256) = k * 256 := by unfold wrap64; omega
    have hw2 : wrap64 (k * 256 + k') = k * 256 + k' := by unfold wrap64; omega
    go_wp2
    go_ret
    exact ⟨_, rfl, isPick_mod _ (by omega), hC2, hF1.trans hF2⟩
  · go_wp2
    go_ret
    exact ⟨_, rfl, isPick_mod _ (by omega), hC1.more (by omega), hF1⟩
theorem one_any (pb : Nat) (A : Option Addr) (c : Nat) (l : List Int) (N : Nat) (n : Int) (w : World) (hC : Cur pb A c l N w) (hN : N ≤ 1000000000000) (hn : n ≤ 9223372036854775807) :
    Calls Tryz.prog 96 #[.pointer (some ⟨pb, 0, none⟩), .int .i64 n] w (CV pb A c l (N + 2) w fun v => ∃ b : Bool, v = .bool b) := by
  go_enter Tryz.func96, Tryz.ntmps96
  go_wp2_with fail
  refine (pick_any pb A c l N n _ hC hN hn).mono ?_
  rintro e w1 ⟨v, rfl, ⟨k, rfl, _⟩, hC1, hF1⟩
  go_wp2
  go_ret
  exact ⟨_, rfl, ⟨_, rfl⟩, hC1, hF1⟩
set_option maxHeartbeats 1000000 in
theorem among_any (pb : Nat) (A : Option Addr) (c : Nat) (l : List Int) (N : Nat) (B : Option Addr) (d lo hi : Nat) (L : List Int) (w : World) (hC : Cur pb A c l N w) (hN : N ≤ 1000000000000) (hS : Sl (fun x : Int => [.int .i64 x]) 1 w lo hi B L) (hd : hi ≤ pb ∨ pb < lo) (h1 : 0 < L.length) (h2 : L.length ≤ 1048576) :
    Calls Tryz.prog 62 #[.pointer (some ⟨pb, 0, none⟩), .slice B L.length d] w (CV pb A c l (N + 2) w fun v => ∃ k ∈ L, v = .int .i64 k) := by
  go_enter Tryz.func62, Tryz.ntmps62
  go_wp2_with fail
  refine (pick_any pb A c l N _ _ hC hN (by omega)).mono ?_
  rintro e w1 ⟨v, rfl, ⟨k, rfl, hk⟩, hC1, hF1⟩
  have hkL : k < L.length := by omega
  obtain ⟨x, hx, hxm⟩ := get_lt hkL
  have hS1 := hS.fr hF1 (by omega)
  obtain ⟨b, off, rfl, _, _, _, hf⟩ := hS1.at_ hx
  have c0 : w1.cell? ⟨b, off + k, none⟩ = some (.int .i64 x) := by have := (hf 0 _ rfl).1; simpa using this
  clear hf hk
  go_wp2
  go_ret
  exact ⟨_, rfl, ⟨x, hxm, rfl⟩, hC1, hF1⟩
set_option maxHeartbeats 1000000 in
theorem of_any (pb : Nat) (A : Option Addr) (c : Nat) (l : List Int) (N : Nat) (B : Option Addr) (d lo hi : Nat) (L : List ByteArray) (w : World) (hC : Cur pb A c l N w) (hN : N ≤ 1000000000000) (hS : Sl (fun x : ByteArray => [.string x]) 1 w lo hi B L) (hd : hi ≤ pb ∨ pb < lo) (h1 : 0 < L.length) (h2 : L.length ≤ 1048576) :
    Calls Tryz.prog 90 #[.pointer (some ⟨pb, 0, none⟩), .slice B L.length d] w (CV pb A c l (N + 2) w fun v => ∃ k ∈ L, v = .string k) := by
  go_enter Tryz.func90, Tryz.ntmps90
  go_wp2_with fail
  refine (pick_any pb A c l N _ _ hC hN (by omega)).mono ?_
  rintro e w1 ⟨v, rfl, ⟨k, rfl, hk⟩, hC1, hF1⟩
  have hkL : k < L.length := by omega
  obtain ⟨x, hx, hxm⟩ := get_lt hkL
  have hS1 := hS.fr hF1 (by omega)
  obtain ⟨b, off, rfl, _, _, _, hf⟩ := hS1.at_ hx
  have c0 : w1.cell? ⟨b, off + k, none⟩ = some (.string x) := by have := (hf 0 _ rfl).1; simpa using this
  clear hf hk
  go_wp2
  go_ret
  exact ⟨_, rfl, ⟨x, hxm, rfl⟩, hC1, hF1⟩
end Go.Proofs.YtjmjilkpckbpeaaGreatDoor

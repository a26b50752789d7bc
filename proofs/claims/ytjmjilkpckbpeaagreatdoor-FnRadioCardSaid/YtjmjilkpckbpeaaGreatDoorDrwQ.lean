/- The Draw functions of FnRadio: what they return, and that older blocks stay. No conditions. -/
import Derived.Test.YtjmjilkpckbpeaaGreatDoorDrwO
import Derived.Test.YtjmjilkpckbpeaaGreatDoorSpo
import Derived.Test.YtjmjilkpckbpeaaGreatDoorMsgT
namespace Go.Proofs.YtjmjilkpckbpeaaGreatDoor
open Go.RowKit

set_option maxRecDepth 100000 in
set_option maxHeartbeats 8000000 in
theorem DrawIsChannel_any (A : Option Addr) (c : Nat) (l : List Int) (w : World) (hl : l.length ≤ maxLen) (hm : ∀ x ∈ l, 0 ≤ x ∧ x ≤ 255) (hS : Sl byE 1 w 0 w.heap.size A l) :
    Calls Tryz.prog 80 #[.slice A l.length c] w fun e w' => ∃ (A1 : Option Addr) (c1 : Nat) (s : List Msg) (A2 : Option Addr) (c2 : Nat) (r : List Msg) (A3 : Option Addr) (c3 : Nat) (h : List Msg), e = .returned (.agg #[.slice A1 s.length c1, .slice A2 r.length c2, .slice A3 h.length c3]) ∧ ChD w.heap.size w' A1 c1 s A2 c2 r A3 c3 h ∧ Below w.heap.size w w' := by
  have hS0 := (hS.alloc (.cells #[.slice none 0 0, .slice none 0 0, .slice none 0 0] 26)).all
  have hC0 := Cur.new (w.alloc (.cells #[.slice none 0 0, .slice none 0 0, .slice none 0 0] 26)) A c l 86 (w.heap.size + 1) (by simp) hS0 hm hl
  have hR : BN w.heap.size [.slice none 0 0, .slice none 0 0, .slice none 0 0] ((w.alloc (.cells #[.slice none 0 0, .slice none 0 0, .slice none 0 0] 26)).alloc (.cells #[.slice A l.length c, .int .i64 0, .int .u64 0] 86)) := (BN.new w #[.slice none 0 0, .slice none 0 0, .slice none 0 0] 26 w.heap.size rfl).below (by simp) ((Below.refl _ _).alloc (Nat.le_refl _) (.cells #[.slice A l.length c, .int .i64 0, .int .u64 0] 86))
  have hB : Below w.heap.size w ((w.alloc (.cells #[.slice none 0 0, .slice none 0 0, .slice none 0 0] 26)).alloc (.cells #[.slice A l.length c, .int .i64 0, .int .u64 0] 86)) := by go_grown
  have hz : w.heap.size + 2 ≤ ((w.alloc (.cells #[.slice none 0 0, .slice none 0 0, .slice none 0 0] 26)).alloc (.cells #[.slice A l.length c, .int .i64 0, .int .u64 0] 86)).heap.size := by simp
  clear hS0 hl hm
  go_enter Tryz.func80, Tryz.ntmps80
  go_wp2_with fail
  refine (channel_any (w.heap.size + 1) A c l 0 _ hC0 (by omega)).mono ?_
  rintro e w1 ⟨A1, c1, s, A2, c2, r, A3, c3, h, rfl, hl1, hm1, hO, hC1, hFn⟩
  replace hO := hO.lift hz
  replace hR := hR.fr hFn (by simp) (.inl (by omega))
  replace hB := hB.trans (hFn.below (B := w.heap.size) (by omega) hB.size)
  replace hz := Nat.le_trans hz hFn.size
  clear hFn hC0
  have k0 := (hR 0 _ rfl).1
  have k1 := (hR 1 _ rfl).1
  have k2 := (hR 2 _ rfl).1
  have f0 := (hR 0 _ rfl).2
  have f1 := (hR 1 _ rfl).2
  have f2 := (hR 2 _ rfl).2
  have hF4 : Fr w.heap.size (w.heap.size + 1) w1 (((w1.setCell ⟨w.heap.size, 0, none⟩ (.slice A1 s.length c1)).setCell ⟨w.heap.size, 1, none⟩ (.slice A2 r.length c2)).setCell ⟨w.heap.size, 2, none⟩ (.slice A3 h.length c3)) := ((((Fr.refl w.heap.size (w.heap.size + 1) w1).setCell (p := ⟨w.heap.size, 0, none⟩) ⟨Nat.le_refl _, Nat.lt_succ_self _⟩ _).setCell (p := ⟨w.heap.size, 1, none⟩) ⟨Nat.le_refl _, Nat.lt_succ_self _⟩ _).setCell (p := ⟨w.heap.size, 2, none⟩) ⟨Nat.le_refl _, Nat.lt_succ_self _⟩ _)
  have hR' := ((hR.put (i := 0) rfl (.slice A1 s.length c1)).put (i := 1) rfl (.slice A2 r.length c2)).put (i := 2) rfl (.slice A3 h.length c3)
  have z0 := (hR' 0 _ rfl).1
  have z1 := (hR' 1 _ rfl).1
  have z2 := (hR' 2 _ rfl).1
  have hO' := (hO.far hF4 (by omega)).lift (b0 := w.heap.size) (by omega)
  have hB' := hB.trans (hF4.below (B := w.heap.size) (Nat.le_refl _) hB.size)
  clear hF4 hR' hR
  go_wp2
  refine bodyPost_ret (by simp [results, Tryz.results80, go_sem, z0, z1, z2]; try rfl) rfl ?_
  exact ⟨A1, c1, s, A2, c2, r, A3, c3, h, rfl, ⟨hl1, hm1, hO'⟩, hB'⟩
set_option maxRecDepth 100000 in
set_option maxHeartbeats 8000000 in
theorem DrawUnconfirmed_any (A : Option Addr) (c : Nat) (l : List Int) (w : World) (hl : l.length ≤ maxLen) (hm : ∀ x ∈ l, 0 ≤ x ∧ x ≤ 255) (hS : Sl byE 1 w 0 w.heap.size A l) :
    Calls Tryz.prog 19 #[.slice A l.length c] w fun e w' => ∃ (A1 : Option Addr) (c1 : Nat) (s : List Msg) (A2 : Option Addr) (c2 : Nat) (r : List Msg) (A3 : Option Addr) (c3 : Nat) (h : List Msg), e = .returned (.agg #[.slice A1 s.length c1, .slice A2 r.length c2, .slice A3 h.length c3]) ∧ ChD w.heap.size w' A1 c1 s A2 c2 r A3 c3 h ∧ Below w.heap.size w w' := by
  have hR : BN w.heap.size [.slice none 0 0, .slice none 0 0, .slice none 0 0] (w.alloc (.cells #[.slice none 0 0, .slice none 0 0, .slice none 0 0] 26)) := BN.new w #[.slice none 0 0, .slice none 0 0, .slice none 0 0] 26 w.heap.size rfl
  have hB : Below w.heap.size w (w.alloc (.cells #[.slice none 0 0, .slice none 0 0, .slice none 0 0] 26)) := by go_grown
  have hS0 := (hS.alloc (.cells #[.slice none 0 0, .slice none 0 0, .slice none 0 0] 26)).all
  have hz : w.heap.size + 1 = (w.alloc (.cells #[.slice none 0 0, .slice none 0 0, .slice none 0 0] 26)).heap.size := by simp
  go_enter Tryz.func19, Tryz.ntmps19
  go_wp2_with fail
  refine (DrawIsChannel_any A c l _ hl hm hS0).mono ?_
  rintro e w1 ⟨A1, c1, s, A2, c2, r, A3, c3, h, rfl, ⟨hl1, hm1, hO⟩, hb⟩
  replace hR := hR.below (by simp) hb
  replace hB := Below.on' hB hb
  rw [← hz] at hO
  clear hb hS hS0 hz hl hm
  have k0 := (hR 0 _ rfl).1
  have k1 := (hR 1 _ rfl).1
  have k2 := (hR 2 _ rfl).1
  have f0 := (hR 0 _ rfl).2
  have f1 := (hR 1 _ rfl).2
  have f2 := (hR 2 _ rfl).2
  have hF4 : Fr w.heap.size (w.heap.size + 1) w1 (((w1.setCell ⟨w.heap.size, 0, none⟩ (.slice A1 s.length c1)).setCell ⟨w.heap.size, 1, none⟩ (.slice A2 r.length c2)).setCell ⟨w.heap.size, 2, none⟩ (.slice A3 h.length c3)) := ((((Fr.refl w.heap.size (w.heap.size + 1) w1).setCell (p := ⟨w.heap.size, 0, none⟩) ⟨Nat.le_refl _, Nat.lt_succ_self _⟩ _).setCell (p := ⟨w.heap.size, 1, none⟩) ⟨Nat.le_refl _, Nat.lt_succ_self _⟩ _).setCell (p := ⟨w.heap.size, 2, none⟩) ⟨Nat.le_refl _, Nat.lt_succ_self _⟩ _)
  have hR' := ((hR.put (i := 0) rfl (.slice A1 s.length c1)).put (i := 1) rfl (.slice A2 r.length c2)).put (i := 2) rfl (.slice A3 h.length c3)
  have z0 := (hR' 0 _ rfl).1
  have z1 := (hR' 1 _ rfl).1
  have z2 := (hR' 2 _ rfl).1
  have hO' := (hO.far hF4 (by omega)).lift (b0 := w.heap.size) (by omega)
  have hB' := hB.trans (hF4.below (B := w.heap.size) (Nat.le_refl _) hB.size)
  clear hF4 hR' hR
  go_wp2
  refine bodyPost_ret (by simp [results, Tryz.results19, go_sem, z0, z1, z2]; try rfl) rfl ?_
  exact ⟨A1, c1, s, A2, c2, r, A3, c3, h, rfl, ⟨hl1, hm1, hO'⟩, hB'⟩
set_option maxRecDepth 100000 in
set_option maxHeartbeats 8000000 in
theorem DrawWasReceived_any (A : Option Addr) (c : Nat) (l : List Int) (w : World) (hl : l.length ≤ maxLen) (hm : ∀ x ∈ l, 0 ≤ x ∧ x ≤ 255) (hS : Sl byE 1 w 0 w.heap.size A l) :
    Calls Tryz.prog 20 #[.slice A l.length c] w fun e w' => ∃ (A1 : Option Addr) (c1 : Nat) (s : List Msg) (A2 : Option Addr) (c2 : Nat) (r : List Msg) (A3 : Option Addr) (c3 : Nat) (h : List Msg) (f : ByteArray) (n : Int), e = .returned (.tuple #[.agg #[.slice A1 s.length c1, .slice A2 r.length c2, .slice A3 h.length c3], .string f, .int .i64 n]) ∧ f.size ≤ 7 ∧ ChD w.heap.size w' A1 c1 s A2 c2 r A3 c3 h ∧ Below w.heap.size w w' := by
  have hS0 := (hS.alloc (.cells #[.slice none 0 0, .slice none 0 0, .slice none 0 0] 26)).all
  have hC0 := Cur.new (w.alloc (.cells #[.slice none 0 0, .slice none 0 0, .slice none 0 0] 26)) A c l 86 (w.heap.size + 1) (by simp) hS0 hm hl
  have hR : BN w.heap.size [.slice none 0 0, .slice none 0 0, .slice none 0 0] ((w.alloc (.cells #[.slice none 0 0, .slice none 0 0, .slice none 0 0] 26)).alloc (.cells #[.slice A l.length c, .int .i64 0, .int .u64 0] 86)) := (BN.new w #[.slice none 0 0, .slice none 0 0, .slice none 0 0] 26 w.heap.size rfl).below (by simp) ((Below.refl _ _).alloc (Nat.le_refl _) (.cells #[.slice A l.length c, .int .i64 0, .int .u64 0] 86))
  have hB : Below w.heap.size w ((w.alloc (.cells #[.slice none 0 0, .slice none 0 0, .slice none 0 0] 26)).alloc (.cells #[.slice A l.length c, .int .i64 0, .int .u64 0] 86)) := by go_grown
  have hz : w.heap.size + 2 ≤ ((w.alloc (.cells #[.slice none 0 0, .slice none 0 0, .slice none 0 0] 26)).alloc (.cells #[.slice A l.length c, .int .i64 0, .int .u64 0] 86)).heap.size := by simp
  clear hS0 hl hm
  go_enter Tryz.func20, Tryz.ntmps20
  go_wp2_with fail
  refine (channel_any (w.heap.size + 1) A c l 0 _ hC0 (by omega)).mono ?_
  rintro e w1 ⟨A1, c1, s, A2, c2, r, A3, c3, h, rfl, hl1, hm1, hO, hC1, hFn⟩
  replace hO := hO.lift hz
  replace hR := hR.fr hFn (by simp) (.inl (by omega))
  replace hB := hB.trans (hFn.below (B := w.heap.size) (by omega) hB.size)
  replace hz := Nat.le_trans hz hFn.size
  clear hFn hC0
  go_wp2_with fail
  refine (crewName_any (w.heap.size + 1) A c l (0 + 600) _ hC1 (by omega)).mono ?_
  rintro e w2 ⟨f, hf, rfl, hC2, hFn⟩
  replace hO := hO.far hFn (by omega)
  replace hR := hR.fr hFn (by simp) (.inl (by omega))
  replace hB := hB.trans (hFn.below (B := w.heap.size) (by omega) hB.size)
  replace hz := Nat.le_trans hz hFn.size
  clear hFn hC1
  go_wp2_with fail
  refine (among_lit (w.heap.size + 1) A c l (0 + 600 + 4) [0, 1000] 2 rfl _ _ _ _ (by simp) rfl hC2 (by omega) (by simp) (by simp)).mono ?_
  rintro e w3 ⟨m1, _, rfl, hC3, hFn⟩
  replace hO := hO.far hFn (by omega)
  replace hR := hR.fr hFn (by simp) (.inl (by omega))
  replace hB := hB.trans (hFn.below (B := w.heap.size) (by omega) hB.size)
  replace hz := Nat.le_trans hz hFn.size
  clear hFn hC2
  go_wp2_with fail
  refine (among_lit (w.heap.size + 1) A c l (0 + 600 + 4 + 2) [1, 1, 2, 3, 999, m1] 6 rfl _ _ _ _ (by simp) rfl hC3 (by omega) (by simp) (by simp)).mono ?_
  rintro e w4 ⟨m2, _, rfl, hC4, hFn⟩
  replace hO := hO.far hFn (by omega)
  replace hR := hR.fr hFn (by simp) (.inl (by omega))
  replace hB := hB.trans (hFn.below (B := w.heap.size) (by omega) hB.size)
  replace hz := Nat.le_trans hz hFn.size
  clear hFn hC3
  have k0 := (hR 0 _ rfl).1
  have k1 := (hR 1 _ rfl).1
  have k2 := (hR 2 _ rfl).1
  have f0 := (hR 0 _ rfl).2
  have f1 := (hR 1 _ rfl).2
  have f2 := (hR 2 _ rfl).2
  have hF4 : Fr w.heap.size (w.heap.size + 1) w4 (((w4.setCell ⟨w.heap.size, 0, none⟩ (.slice A1 s.length c1)).setCell ⟨w.heap.size, 1, none⟩ (.slice A2 r.length c2)).setCell ⟨w.heap.size, 2, none⟩ (.slice A3 h.length c3)) := ((((Fr.refl w.heap.size (w.heap.size + 1) w4).setCell (p := ⟨w.heap.size, 0, none⟩) ⟨Nat.le_refl _, Nat.lt_succ_self _⟩ _).setCell (p := ⟨w.heap.size, 1, none⟩) ⟨Nat.le_refl _, Nat.lt_succ_self _⟩ _).setCell (p := ⟨w.heap.size, 2, none⟩) ⟨Nat.le_refl _, Nat.lt_succ_self _⟩ _)
  have hR' := ((hR.put (i := 0) rfl (.slice A1 s.length c1)).put (i := 1) rfl (.slice A2 r.length c2)).put (i := 2) rfl (.slice A3 h.length c3)
  have z0 := (hR' 0 _ rfl).1
  have z1 := (hR' 1 _ rfl).1
  have z2 := (hR' 2 _ rfl).1
  have hO' := (hO.far hF4 (by omega)).lift (b0 := w.heap.size) (by omega)
  have hB' := hB.trans (hF4.below (B := w.heap.size) (Nat.le_refl _) hB.size)
  clear hF4 hR' hR
  go_wp2
  refine bodyPost_ret (by simp [results, Tryz.results20, go_sem, z0, z1, z2]; try rfl) rfl ?_
  exact ⟨A1, c1, s, A2, c2, r, A3, c3, h, f, m2, rfl, hf, ⟨hl1, hm1, hO'⟩, hB'⟩
set_option maxRecDepth 100000 in
set_option maxHeartbeats 8000000 in
theorem DrawIsMessage_any (A : Option Addr) (c : Nat) (l : List Int) (w : World) (hl : l.length ≤ maxLen) (hm : ∀ x ∈ l, 0 ≤ x ∧ x ≤ 255) (hS : Sl byE 1 w 0 w.heap.size A l) :
    Calls Tryz.prog 83 #[.slice A l.length c] w fun e w' => ∃ x : Msg, (x.f.size ≤ 7 ∧ x.b.size ≤ 13) ∧ e = .returned (.agg #[.string x.f, .int .i64 x.n, .string x.b]) ∧ Below w.heap.size w w' := by
  have hS0 := (hS.alloc (.cells #[.string ⟨#[]⟩, .int .i64 0, .string ⟨#[]⟩] 33)).all
  have hC0 := Cur.new (w.alloc (.cells #[.string ⟨#[]⟩, .int .i64 0, .string ⟨#[]⟩] 33)) A c l 86 (w.heap.size + 1) (by simp) hS0 hm hl
  have hR : BN w.heap.size [.string ⟨#[]⟩, .int .i64 0, .string ⟨#[]⟩] ((w.alloc (.cells #[.string ⟨#[]⟩, .int .i64 0, .string ⟨#[]⟩] 33)).alloc (.cells #[.slice A l.length c, .int .i64 0, .int .u64 0] 86)) := (BN.new w #[.string ⟨#[]⟩, .int .i64 0, .string ⟨#[]⟩] 33 w.heap.size rfl).below (by simp) ((Below.refl _ _).alloc (Nat.le_refl _) (.cells #[.slice A l.length c, .int .i64 0, .int .u64 0] 86))
  have hB : Below w.heap.size w ((w.alloc (.cells #[.string ⟨#[]⟩, .int .i64 0, .string ⟨#[]⟩] 33)).alloc (.cells #[.slice A l.length c, .int .i64 0, .int .u64 0] 86)) := by go_grown
  have hz : w.heap.size + 2 ≤ ((w.alloc (.cells #[.string ⟨#[]⟩, .int .i64 0, .string ⟨#[]⟩] 33)).alloc (.cells #[.slice A l.length c, .int .i64 0, .int .u64 0] 86)).heap.size := by simp
  clear hS0 hl hm
  go_enter Tryz.func83, Tryz.ntmps83
  go_wp2_with fail
  refine (message_any (w.heap.size + 1) A c l 0 _ hC0 (by omega)).mono ?_
  rintro e w1 ⟨x, hx, rfl, hC1, hFn⟩
  replace hR := hR.fr hFn (by simp) (.inl (by omega))
  replace hB := hB.trans (hFn.below (B := w.heap.size) (by omega) hB.size)
  replace hz := Nat.le_trans hz hFn.size
  clear hFn hC0 hC1
  have k0 := (hR 0 _ rfl).1
  have k1 := (hR 1 _ rfl).1
  have k2 := (hR 2 _ rfl).1
  have f0 := (hR 0 _ rfl).2
  have f1 := (hR 1 _ rfl).2
  have f2 := (hR 2 _ rfl).2
  have hF4 : Fr w.heap.size (w.heap.size + 1) w1 (((w1.setCell ⟨w.heap.size, 0, none⟩ (.string x.f)).setCell ⟨w.heap.size, 1, none⟩ (.int .i64 x.n)).setCell ⟨w.heap.size, 2, none⟩ (.string x.b)) := ((((Fr.refl w.heap.size (w.heap.size + 1) w1).setCell (p := ⟨w.heap.size, 0, none⟩) ⟨Nat.le_refl _, Nat.lt_succ_self _⟩ _).setCell (p := ⟨w.heap.size, 1, none⟩) ⟨Nat.le_refl _, Nat.lt_succ_self _⟩ _).setCell (p := ⟨w.heap.size, 2, none⟩) ⟨Nat.le_refl _, Nat.lt_succ_self _⟩ _)
  have hR' := ((hR.put (i := 0) rfl (.string x.f)).put (i := 1) rfl (.int .i64 x.n)).put (i := 2) rfl (.string x.b)
  have z0 := (hR' 0 _ rfl).1
  have z1 := (hR' 1 _ rfl).1
  have z2 := (hR' 2 _ rfl).1
  have hB' := hB.trans (hF4.below (B := w.heap.size) (Nat.le_refl _) hB.size)
  clear hF4 hR' hR
  go_wp2
  refine bodyPost_ret (by simp [results, Tryz.results83, go_sem, z0, z1, z2]; try rfl) rfl ?_
  exact ⟨x, hx, rfl, hB'⟩
set_option maxRecDepth 100000 in
set_option maxHeartbeats 8000000 in
theorem DrawMessageText_any (A : Option Addr) (c : Nat) (l : List Int) (w : World) (hl : l.length ≤ maxLen) (hm : ∀ x ∈ l, 0 ≤ x ∧ x ≤ 255) (hS : Sl byE 1 w 0 w.heap.size A l) :
    Calls Tryz.prog 22 #[.slice A l.length c] w fun e w' => ∃ x : Msg, (x.f.size ≤ 7 ∧ x.b.size ≤ 13) ∧ e = .returned (.agg #[.string x.f, .int .i64 x.n, .string x.b]) ∧ Below w.heap.size w w' := by
  have hR : BN w.heap.size [.string ⟨#[]⟩, .int .i64 0, .string ⟨#[]⟩] (w.alloc (.cells #[.string ⟨#[]⟩, .int .i64 0, .string ⟨#[]⟩] 33)) := BN.new w #[.string ⟨#[]⟩, .int .i64 0, .string ⟨#[]⟩] 33 w.heap.size rfl
  have hB : Below w.heap.size w (w.alloc (.cells #[.string ⟨#[]⟩, .int .i64 0, .string ⟨#[]⟩] 33)) := by go_grown
  have hS0 := (hS.alloc (.cells #[.string ⟨#[]⟩, .int .i64 0, .string ⟨#[]⟩] 33)).all
  go_enter Tryz.func22, Tryz.ntmps22
  go_wp2_with fail
  refine (DrawIsMessage_any A c l _ hl hm hS0).mono ?_
  rintro e w1 ⟨x, hx, rfl, hb⟩
  replace hR := hR.below (by simp) hb
  replace hB := Below.on' hB hb
  clear hb hS hS0 hl hm
  have k0 := (hR 0 _ rfl).1
  have k1 := (hR 1 _ rfl).1
  have k2 := (hR 2 _ rfl).1
  have f0 := (hR 0 _ rfl).2
  have f1 := (hR 1 _ rfl).2
  have f2 := (hR 2 _ rfl).2
  have hF4 : Fr w.heap.size (w.heap.size + 1) w1 (((w1.setCell ⟨w.heap.size, 0, none⟩ (.string x.f)).setCell ⟨w.heap.size, 1, none⟩ (.int .i64 x.n)).setCell ⟨w.heap.size, 2, none⟩ (.string x.b)) := ((((Fr.refl w.heap.size (w.heap.size + 1) w1).setCell (p := ⟨w.heap.size, 0, none⟩) ⟨Nat.le_refl _, Nat.lt_succ_self _⟩ _).setCell (p := ⟨w.heap.size, 1, none⟩) ⟨Nat.le_refl _, Nat.lt_succ_self _⟩ _).setCell (p := ⟨w.heap.size, 2, none⟩) ⟨Nat.le_refl _, Nat.lt_succ_self _⟩ _)
  have hR' := ((hR.put (i := 0) rfl (.string x.f)).put (i := 1) rfl (.int .i64 x.n)).put (i := 2) rfl (.string x.b)
  have z0 := (hR' 0 _ rfl).1
  have z1 := (hR' 1 _ rfl).1
  have z2 := (hR' 2 _ rfl).1
  have hB' := hB.trans (hF4.below (B := w.heap.size) (Nat.le_refl _) hB.size)
  clear hF4 hR' hR
  go_wp2
  refine bodyPost_ret (by simp [results, Tryz.results22, go_sem, z0, z1, z2]; try rfl) rfl ?_
  exact ⟨x, hx, rfl, hB'⟩
set_option maxRecDepth 100000 in
set_option maxHeartbeats 8000000 in
theorem DrawParseMessage_any (A : Option Addr) (c : Nat) (l : List Int) (w : World) (hl : l.length ≤ maxLen) (hm : ∀ x ∈ l, 0 ≤ x ∧ x ≤ 255) (hS : Sl byE 1 w 0 w.heap.size A l) :
    Calls Tryz.prog 25 #[.slice A l.length c] w fun e w' => ∃ s : ByteArray, s.size ≤ 1000 ∧ e = .returned (.string s) ∧ Below w.heap.size w w' := by
  have hS0 := hS
  have hC0 := Cur.new w A c l 86 w.heap.size rfl hS0 hm hl
  have hB : Below w.heap.size w (w.alloc (.cells #[.slice A l.length c, .int .i64 0, .int .u64 0] 86)) := by go_grown
  have hz : w.heap.size + 1 ≤ (w.alloc (.cells #[.slice A l.length c, .int .i64 0, .int .u64 0] 86)).heap.size := by simp
  clear hS0 hl hm
  go_enter Tryz.func25, Tryz.ntmps25
  go_wp2_with fail
  refine (message_any w.heap.size A c l 0 _ hC0 (by omega)).mono ?_
  rintro e w1 ⟨x, hx, rfl, hC1, hFn⟩
  replace hB := hB.trans (hFn.below (B := w.heap.size) (Nat.le_refl _) hB.size)
  have hX := B3.new w1 (.string x.f) (.int .i64 x.n) (.string x.b) 33 _ rfl
  replace hC1 := hC1.alloc (.cells #[.string x.f, .int .i64 x.n, .string x.b] 33)
  replace hB := hB.alloc hB.size (.cells #[.string x.f, .int .i64 x.n, .string x.b] 33)
  obtain ⟨b0, b1, b2, _, _, _⟩ := id hX
  clear hFn hC0 hS
  go_wp2_with fail
  refine (raOne_any x _ (by omega) (by omega)).mono ?_
  rintro e w2 ⟨rfl, hb⟩
  replace hX := hX.below hb
  replace hC1 := hC1.below hb
  replace hB := Below.on' hB hb
  clear hb b0 b1 b2
  obtain ⟨b0, b1, b2, _, _, _⟩ := id hX
  go_upto_if 12 with fail
  go_cut [5] from 6 (fun v wx => ∃ u : ByteArray, v = .string u ∧ u.size ≤ 100 ∧ Cur w.heap.size A c l (0 + 12) wx ∧ Below w.heap.size w wx)
  case first =>
    by_cases g : msgB x = true
    rotate_left
    · have g : msgB x = false := by simpa using g
      rw [g]
      go_wp2_with fail
      go_meet
      exact ⟨⟨#[112, 49, 35, 50, 58, 116, 104, 101, 114, 101]⟩, rfl, by decide, hC1, hB⟩
    · rw [g]
      have hsz := (msg_parts g).2.2.2.2
      go_wp2_with fail
      refine (raText_any x g _).mono ?_
      rintro e w3 ⟨rfl, hb⟩
      replace hC1 := hC1.below hb
      replace hB := Below.on' hB hb
      clear hb b0 b1 b2 hX
      go_wp2_with fail
      go_meet
      exact ⟨msgT x, rfl, by omega, hC1, hB⟩
  case rest =>
    clear hX hC1 hB hx
    obtain ⟨u, rfl, hu, hC1, hB⟩ := hcut
    go_wp2_with fail
    refine (pick_any w.heap.size A c l (0 + 12) 6 _ hC1 (by omega) (by omega)).mono ?_
    rintro e w4 ⟨_, rfl, ⟨k, rfl, hk⟩, hC2, hFn⟩
    replace hB := hB.trans (hFn.below (B := w.heap.size) (Nat.le_refl _) hB.size)
    clear hFn hC1 hk
    have hsp : ∀ W, Cur w.heap.size A c l (0 + 12 + 2) W → Calls Tryz.prog 89 #[.pointer (some ⟨w.heap.size, 0, none⟩), .string u, .string ⟨#[35, 58, 32, 97, 98, 48, 49]⟩] W (CS w.heap.size A c l (0 + 12 + 2 + 20) (u.size + 2) W) := fun W hC => spoilt_any w.heap.size A c l (0 + 12 + 2) u ⟨#[35, 58, 32, 97, 98, 48, 49]⟩ W hC (by omega) (by omega) (by decide) (by decide)
    by_cases e0 : k = 0
    · have q0 : ((k : Int) == 0) = true := by simp [e0]
      clear e0
      go_wp2_with fail
      refine (hsp _ hC2).mono ?_
      rintro e w5 ⟨v, hv, rfl, _, hFn⟩
      replace hB := hB.trans (hFn.below (B := w.heap.size) (Nat.le_refl _) hB.size)
      clear hFn
      go_wp2
      go_ret
      exact ⟨v, by omega, rfl, hB⟩
    have q0 : ((k : Int) == 0) = false := by simp; omega
    by_cases e1 : k = 1
    · have q1 : ((k : Int) == 1) = true := by simp [e1]
      clear e0 e1
      go_wp2_with fail
      refine (hsp _ hC2).mono ?_
      rintro e w5 ⟨v, hv, rfl, _, hFn⟩
      replace hB := hB.trans (hFn.below (B := w.heap.size) (Nat.le_refl _) hB.size)
      clear hFn
      go_wp2
      go_ret
      exact ⟨v, by omega, rfl, hB⟩
    have q1 : ((k : Int) == 1) = false := by simp; omega
    clear hsp
    by_cases e2 : k = 2
    · have q2 : ((k : Int) == 2) = true := by simp [e2]
      clear e0 e1 e2
      go_wp2_with fail
      refine (of_lit w.heap.size A c l (0 + 12 + 2) [⟨#[]⟩, ⟨#[112, 49, 35, 50, 58]⟩, ⟨#[112, 49, 35, 48, 50, 58, 116, 104, 101, 114, 101]⟩, ⟨#[112, 49, 35, 48, 58, 116, 104, 101, 114, 101]⟩, ⟨#[112, 49, 35, 49, 48, 48, 48, 58, 116, 104, 101, 114, 101]⟩, ⟨#[112, 49, 35, 49, 58, 116, 104, 101, 114, 101, 58, 110, 111, 119]⟩, ⟨#[35, 49, 58, 116, 104, 101, 114, 101]⟩, ⟨#[112, 49, 58, 116, 104, 101, 114, 101]⟩] 8 rfl 100 (List.forall_mem_cons.2 ⟨(by decide), (List.forall_mem_cons.2 ⟨(by decide), (List.forall_mem_cons.2 ⟨(by decide), (List.forall_mem_cons.2 ⟨(by decide), (List.forall_mem_cons.2 ⟨(by decide), (List.forall_mem_cons.2 ⟨(by decide), (List.forall_mem_cons.2 ⟨(by decide), (List.forall_mem_cons.2 ⟨(by decide), (fun _ h => nomatch h)⟩)⟩)⟩)⟩)⟩)⟩)⟩)⟩) _ _ _ _ (by simp) rfl hC2 (by omega) (by simp) (by simp)).mono ?_
      rintro e w5 ⟨v, hv, rfl, _, hFn⟩
      replace hB := hB.trans (hFn.below (B := w.heap.size) (Nat.le_refl _) hB.size)
      clear hFn
      go_wp2
      go_ret
      exact ⟨v, by omega, rfl, hB⟩
    have q2 : ((k : Int) == 2) = false := by simp; omega
    clear e0 e1 e2
    go_wp2
    go_ret
    exact ⟨u, by omega, rfl, hB⟩
set_option maxRecDepth 100000 in
set_option maxHeartbeats 8000000 in
theorem DrawDeliver_any (A : Option Addr) (c : Nat) (l : List Int) (w : World) (hl : l.length ≤ maxLen) (hm : ∀ x ∈ l, 0 ≤ x ∧ x ≤ 255) (hS : Sl byE 1 w 0 w.heap.size A l) :
    Calls Tryz.prog 7 #[.slice A l.length c] w fun e w' => ∃ (A1 : Option Addr) (c1 : Nat) (s : List Msg) (A2 : Option Addr) (c2 : Nat) (r : List Msg) (A3 : Option Addr) (c3 : Nat) (h : List Msg) (i : Int), e = .returned (.tuple #[.agg #[.slice A1 s.length c1, .slice A2 r.length c2, .slice A3 h.length c3], .int .i64 i]) ∧ ChD w.heap.size w' A1 c1 s A2 c2 r A3 c3 h ∧ Below w.heap.size w w' := by
  have hS0 := (hS.alloc (.cells #[.slice none 0 0, .slice none 0 0, .slice none 0 0] 26)).all
  have hC0 := Cur.new (w.alloc (.cells #[.slice none 0 0, .slice none 0 0, .slice none 0 0] 26)) A c l 86 (w.heap.size + 1) (by simp) hS0 hm hl
  have hR : BN w.heap.size [.slice none 0 0, .slice none 0 0, .slice none 0 0] ((w.alloc (.cells #[.slice none 0 0, .slice none 0 0, .slice none 0 0] 26)).alloc (.cells #[.slice A l.length c, .int .i64 0, .int .u64 0] 86)) := (BN.new w #[.slice none 0 0, .slice none 0 0, .slice none 0 0] 26 w.heap.size rfl).below (by simp) ((Below.refl _ _).alloc (Nat.le_refl _) (.cells #[.slice A l.length c, .int .i64 0, .int .u64 0] 86))
  have hB : Below w.heap.size w ((w.alloc (.cells #[.slice none 0 0, .slice none 0 0, .slice none 0 0] 26)).alloc (.cells #[.slice A l.length c, .int .i64 0, .int .u64 0] 86)) := by go_grown
  have hz : w.heap.size + 2 ≤ ((w.alloc (.cells #[.slice none 0 0, .slice none 0 0, .slice none 0 0] 26)).alloc (.cells #[.slice A l.length c, .int .i64 0, .int .u64 0] 86)).heap.size := by simp
  clear hS0 hl hm
  go_enter Tryz.func7, Tryz.ntmps7
  go_wp2_with fail
  refine (channel_any (w.heap.size + 1) A c l 0 _ hC0 (by omega)).mono ?_
  rintro e w1 ⟨A1, c1, s, A2, c2, r, A3, c3, h, rfl, hl1, hm1, hO, hC1, hFn⟩
  replace hO := hO.lift hz
  replace hR := hR.fr hFn (by simp) (.inl (by omega))
  replace hB := hB.trans (hFn.below (B := w.heap.size) (by omega) hB.size)
  replace hz := Nat.le_trans hz hFn.size
  clear hFn hC0
  have hcd : Sl byE 1 w1 0 w.heap.size A l := hS.keep (fun b _ hb => hB.block b hb) hB.size
  have q : RD w w1.heap.size A c l 600 A1 c1 s A2 c2 r A3 c3 h [.slice none 0 0, .slice none 0 0, .slice none 0 0] (w1.alloc (.cells #[.slice A1 s.length c1, .slice A2 r.length c2, .slice A3 h.length c3] 26)) := ⟨BN.new w1 #[.slice A1 s.length c1, .slice A2 r.length c2, .slice A3 h.length c3] 26 _ rfl, hO.below ((Below.refl _ _).alloc (Nat.le_refl _) _), hR.below (by simp) ((Below.refl _ _).alloc (Nat.le_refl _) _), (hC1.more (by omega)).alloc _, hcd.keep (fun b _ hb => ((Below.refl w1.heap.size w1).alloc (Nat.le_refl _) _).block b (by omega)) (by simp), hB.alloc hB.size _, hz⟩
  clear hcd hO hR hC1 hB hS
  have hls : s.length ≤ 100 := by omega
  have hwp : IntKind.i64.wrap ((s.length : Int) + 1) = (s.length : Int) + 1 := IntWalk.i64_in _ (by omega)
  have hwm : IntKind.i64.wrap ((s.length : Int) - 1) = (s.length : Int) - 1 := IntWalk.i64_in _ (by omega)
  go_upto_region 3 with fail
  generalize w1.heap.size = bx at q ⊢
  generalize w1.alloc (.cells #[.slice A1 s.length c1, .slice A2 r.length c2, .slice A3 h.length c3] 26) = w1B at q ⊢
  have q1_ := q.below (by simp) (Below.refl _ _).drew
  refine wp_region_held_drew (S := (fun w' => w'.cell? ⟨bx, 0, none⟩ = some (.slice A1 s.length c1) ∧ w'.cell? ⟨bx, 1, none⟩ = some (.slice A2 r.length c2) ∧ w'.cell? ⟨bx, 2, none⟩ = some (.slice A3 h.length c3))) (by kernel_rfl) ⟨(q1_.x 0 _ rfl).1, (q1_.x 1 _ rfl).1, (q1_.x 2 _ rfl).1⟩ (fun hHeld => ?_)
  clear hHeld q
  generalize w1B.drew = V0 at q1_ ⊢
  have q0 := q1_
  clear q1_
  change wpAnyH _ _ _ _ _ 25 #[false, false, false, false, false, false, false, false, false, false, false, false, false, false, false, false, false, false, false, false, false, false, false, false, false] _ _
  refine wpAnyH_takeL (i := 0) (v := .agg #[.slice A1 s.length c1, .slice A2 r.length c2, .slice A3 h.length c3]) rfl (by kernel_rfl) (by kernel_rfl) (by kernel_rfl) (fun _ _ _ h => h) (Or.inl ⟨by rfl, fun w' hSw => by obtain ⟨z0, z1, z2⟩ := hSw; go_simp⟩) ⟨(q0.x 0 _ rfl).1, (q0.x 1 _ rfl).1, (q0.x 2 _ rfl).1⟩ ?_
  simp only [Act.put, List.setIfInBounds_toArray, List.set_cons_zero, List.set_cons_succ]
  refine wpAnyH_takeL (i := 1) (v := .pointer (some ⟨w.heap.size + 1, 0, none⟩)) rfl (by kernel_rfl) (by kernel_rfl) (by kernel_rfl) (fun _ _ _ h => h) (Or.inl ⟨by rfl, fun w' hSw => by obtain ⟨z0, z1, z2⟩ := hSw; go_simp⟩) ⟨(q0.x 0 _ rfl).1, (q0.x 1 _ rfl).1, (q0.x 2 _ rfl).1⟩ ?_
  simp only [Act.put, List.setIfInBounds_toArray, List.set_cons_zero, List.set_cons_succ]
  refine wpAnyH_takeL (i := 2) (v := .pointer (some ⟨w.heap.size + 1, 0, none⟩)) rfl (by kernel_rfl) (by kernel_rfl) (by kernel_rfl) (fun _ _ _ h => h) (Or.inl ⟨by rfl, fun w' hSw => by obtain ⟨z0, z1, z2⟩ := hSw; go_simp⟩) ⟨(q0.x 0 _ rfl).1, (q0.x 1 _ rfl).1, (q0.x 2 _ rfl).1⟩ ?_
  simp only [Act.put, List.setIfInBounds_toArray, List.set_cons_zero, List.set_cons_succ]
  refine wpAnyH_takeL (i := 3) (v := .pointer (some ⟨bx, 0, none⟩)) rfl (by kernel_rfl) (by kernel_rfl) (by kernel_rfl) (fun _ _ _ h => h) (Or.inl ⟨by rfl, fun w' hSw => by obtain ⟨z0, z1, z2⟩ := hSw; go_simp⟩) ⟨(q0.x 0 _ rfl).1, (q0.x 1 _ rfl).1, (q0.x 2 _ rfl).1⟩ ?_
  simp only [Act.put, List.setIfInBounds_toArray, List.set_cons_zero, List.set_cons_succ]
  refine wpAnyH_takeL (i := 4) (v := .slice A1 s.length c1) rfl (by kernel_rfl) (by kernel_rfl) (by kernel_rfl) (fun _ _ _ h => h) (Or.inl ⟨by rfl, fun w' hSw => by obtain ⟨z0, z1, z2⟩ := hSw; go_simp⟩) ⟨(q0.x 0 _ rfl).1, (q0.x 1 _ rfl).1, (q0.x 2 _ rfl).1⟩ ?_
  simp only [Act.put, List.setIfInBounds_toArray, List.set_cons_zero, List.set_cons_succ]
  refine wpAnyH_takeL (i := 5) (v := .int .i64 (s.length : Int)) rfl (by kernel_rfl) (by kernel_rfl) (by kernel_rfl) (fun _ _ _ h => h) (Or.inl ⟨by rfl, fun w' hSw => by obtain ⟨z0, z1, z2⟩ := hSw; go_simp⟩) ⟨(q0.x 0 _ rfl).1, (q0.x 1 _ rfl).1, (q0.x 2 _ rfl).1⟩ ?_
  simp only [Act.put, List.setIfInBounds_toArray, List.set_cons_zero, List.set_cons_succ]
  refine wpAnyH_takeL (i := 6) (v := .int .i64 ((s.length : Int) + 1)) rfl (by kernel_rfl) (by kernel_rfl) (by kernel_rfl) (fun _ _ _ h => h) (Or.inl ⟨by rfl, fun w' hSw => by obtain ⟨z0, z1, z2⟩ := hSw; go_simp⟩) ⟨(q0.x 0 _ rfl).1, (q0.x 1 _ rfl).1, (q0.x 2 _ rfl).1⟩ ?_
  simp only [Act.put, List.setIfInBounds_toArray, List.set_cons_zero, List.set_cons_succ]
  refine wpAnyH_takeL (i := 8) (v := .pointer (some ⟨w.heap.size + 1, 0, none⟩)) rfl (by kernel_rfl) (by kernel_rfl) (by kernel_rfl) (fun _ _ _ h => h) (Or.inl ⟨by rfl, fun w' hSw => by obtain ⟨z0, z1, z2⟩ := hSw; go_simp⟩) ⟨(q0.x 0 _ rfl).1, (q0.x 1 _ rfl).1, (q0.x 2 _ rfl).1⟩ ?_
  simp only [Act.put, List.setIfInBounds_toArray, List.set_cons_zero, List.set_cons_succ]
  refine wpAnyH_takeL (i := 9) (v := .pointer (some ⟨bx, 0, none⟩)) rfl (by kernel_rfl) (by kernel_rfl) (by kernel_rfl) (fun _ _ _ h => h) (Or.inl ⟨by rfl, fun w' hSw => by obtain ⟨z0, z1, z2⟩ := hSw; go_simp⟩) ⟨(q0.x 0 _ rfl).1, (q0.x 1 _ rfl).1, (q0.x 2 _ rfl).1⟩ ?_
  simp only [Act.put, List.setIfInBounds_toArray, List.set_cons_zero, List.set_cons_succ]
  refine wpAnyH_takeL (i := 10) (v := .slice A1 s.length c1) rfl (by kernel_rfl) (by kernel_rfl) (by kernel_rfl) (fun _ _ _ h => h) (Or.inl ⟨by rfl, fun w' hSw => by obtain ⟨z0, z1, z2⟩ := hSw; go_simp⟩) ⟨(q0.x 0 _ rfl).1, (q0.x 1 _ rfl).1, (q0.x 2 _ rfl).1⟩ ?_
  simp only [Act.put, List.setIfInBounds_toArray, List.set_cons_zero, List.set_cons_succ]
  refine wpAnyH_takeL (i := 11) (v := .int .i64 (s.length : Int)) rfl (by kernel_rfl) (by kernel_rfl) (by kernel_rfl) (fun _ _ _ h => h) (Or.inl ⟨by rfl, fun w' hSw => by obtain ⟨z0, z1, z2⟩ := hSw; go_simp⟩) ⟨(q0.x 0 _ rfl).1, (q0.x 1 _ rfl).1, (q0.x 2 _ rfl).1⟩ ?_
  simp only [Act.put, List.setIfInBounds_toArray, List.set_cons_zero, List.set_cons_succ]
  refine wpAnyH_takeL (i := 12) (v := .int .i64 ((s.length : Int) + 1)) rfl (by kernel_rfl) (by kernel_rfl) (by kernel_rfl) (fun _ _ _ h => h) (Or.inl ⟨by rfl, fun w' hSw => by obtain ⟨z0, z1, z2⟩ := hSw; go_simp⟩) ⟨(q0.x 0 _ rfl).1, (q0.x 1 _ rfl).1, (q0.x 2 _ rfl).1⟩ ?_
  simp only [Act.put, List.setIfInBounds_toArray, List.set_cons_zero, List.set_cons_succ]
  refine wpAnyH_takeL (i := 14) (v := .pointer (some ⟨bx, 0, none⟩)) rfl (by kernel_rfl) (by kernel_rfl) (by kernel_rfl) (fun _ _ _ h => h) (Or.inl ⟨by rfl, fun w' hSw => by obtain ⟨z0, z1, z2⟩ := hSw; go_simp⟩) ⟨(q0.x 0 _ rfl).1, (q0.x 1 _ rfl).1, (q0.x 2 _ rfl).1⟩ ?_
  simp only [Act.put, List.setIfInBounds_toArray, List.set_cons_zero, List.set_cons_succ]
  refine wpAnyH_takeL (i := 15) (v := .slice A1 s.length c1) rfl (by kernel_rfl) (by kernel_rfl) (by kernel_rfl) (fun _ _ _ h => h) (Or.inl ⟨by rfl, fun w' hSw => by obtain ⟨z0, z1, z2⟩ := hSw; go_simp⟩) ⟨(q0.x 0 _ rfl).1, (q0.x 1 _ rfl).1, (q0.x 2 _ rfl).1⟩ ?_
  simp only [Act.put, List.setIfInBounds_toArray, List.set_cons_zero, List.set_cons_succ]
  refine wpAnyH_takeL (i := 16) (v := .int .i64 (s.length : Int)) rfl (by kernel_rfl) (by kernel_rfl) (by kernel_rfl) (fun _ _ _ h => h) (Or.inl ⟨by rfl, fun w' hSw => by obtain ⟨z0, z1, z2⟩ := hSw; go_simp⟩) ⟨(q0.x 0 _ rfl).1, (q0.x 1 _ rfl).1, (q0.x 2 _ rfl).1⟩ ?_
  simp only [Act.put, List.setIfInBounds_toArray, List.set_cons_zero, List.set_cons_succ]
  refine wpAnyH_takeL (i := 17) (v := .int .i64 ((s.length : Int) - 1)) rfl (by kernel_rfl) (by kernel_rfl) (by kernel_rfl) (fun _ _ _ h => h) (Or.inl ⟨by rfl, fun w' hSw => by obtain ⟨z0, z1, z2⟩ := hSw; go_simp⟩) ⟨(q0.x 0 _ rfl).1, (q0.x 1 _ rfl).1, (q0.x 2 _ rfl).1⟩ ?_
  simp only [Act.put, List.setIfInBounds_toArray, List.set_cons_zero, List.set_cons_succ]
  refine wpAnyH_takeL (i := 18) (v := .pointer (some ⟨bx, 0, none⟩)) rfl (by kernel_rfl) (by kernel_rfl) (by kernel_rfl) (fun _ _ _ h => h) (Or.inl ⟨by rfl, fun w' hSw => by obtain ⟨z0, z1, z2⟩ := hSw; go_simp⟩) ⟨(q0.x 0 _ rfl).1, (q0.x 1 _ rfl).1, (q0.x 2 _ rfl).1⟩ ?_
  simp only [Act.put, List.setIfInBounds_toArray, List.set_cons_zero, List.set_cons_succ]
  refine wpAnyH_takeL (i := 19) (v := .slice A1 s.length c1) rfl (by kernel_rfl) (by kernel_rfl) (by kernel_rfl) (fun _ _ _ h => h) (Or.inl ⟨by rfl, fun w' hSw => by obtain ⟨z0, z1, z2⟩ := hSw; go_simp⟩) ⟨(q0.x 0 _ rfl).1, (q0.x 1 _ rfl).1, (q0.x 2 _ rfl).1⟩ ?_
  simp only [Act.put, List.setIfInBounds_toArray, List.set_cons_zero, List.set_cons_succ]
  refine wpAnyH_takeL (i := 20) (v := .int .i64 (s.length : Int)) rfl (by kernel_rfl) (by kernel_rfl) (by kernel_rfl) (fun _ _ _ h => h) (Or.inl ⟨by rfl, fun w' hSw => by obtain ⟨z0, z1, z2⟩ := hSw; go_simp⟩) ⟨(q0.x 0 _ rfl).1, (q0.x 1 _ rfl).1, (q0.x 2 _ rfl).1⟩ ?_
  simp only [Act.put, List.setIfInBounds_toArray, List.set_cons_zero, List.set_cons_succ]
  refine wpAnyH_ready (rs := [7]) (by kernel_rfl) (by simp) ?_
  refine AllReadyH.consL rfl (fun K hK => ?_) AllReadyH.nil
  go_simp
  refine (pick_any (w.heap.size + 1) A c l 600 _ _ q0.cur (by omega) (by omega)).mono ?_
  rintro e V1 ⟨_, rfl, ⟨k1, rfl, _⟩, hC1, hFn⟩
  have q1 := q0.step (by simp) hFn hC1
  clear hFn hC1 q0
  go_simp
  refine hK.out _ _ ⟨(q1.x 0 _ rfl).1, (q1.x 1 _ rfl).1, (q1.x 2 _ rfl).1⟩ (fun _ => ?_)
  clear hK K
  simp only [List.setIfInBounds_toArray, List.set_cons_zero, List.set_cons_succ]
  refine wpAnyH_ready (rs := [13]) (by kernel_rfl) (by simp) ?_
  refine AllReadyH.consL rfl (fun K hK => ?_) AllReadyH.nil
  go_simp
  refine (pick_any (w.heap.size + 1) A c l (600 + 2) _ _ q1.cur (by omega) (by omega)).mono ?_
  rintro e V2 ⟨_, rfl, ⟨k2, rfl, _⟩, hC1, hFn⟩
  have q2 := q1.step (by simp) hFn hC1
  clear hFn hC1 q1
  go_simp
  refine hK.out _ _ ⟨(q2.x 0 _ rfl).1, (q2.x 1 _ rfl).1, (q2.x 2 _ rfl).1⟩ (fun _ => ?_)
  clear hK K
  simp only [List.setIfInBounds_toArray, List.set_cons_zero, List.set_cons_succ]
  refine wpAnyH_ready (rs := [21]) (by kernel_rfl) (by simp) ?_
  refine AllReadyH.consL rfl (fun K hK => ?_) AllReadyH.nil
  go_simp
  have q3 := q2.below (by simp) ((Below.refl V2.heap.size V2).alloc (Nat.le_refl _) (.cells #[.int .i64 0, .int .i64 (k1 : Int), .int .i64 (k2 : Int), .int .i64 ((s.length : Int) - 1), .int .i64 (s.length : Int), .int .i64 (-1)] 3))
  refine hK.out _ _ ⟨(q3.x 0 _ rfl).1, (q3.x 1 _ rfl).1, (q3.x 2 _ rfl).1⟩ (fun _ => ?_)
  clear hK K
  simp only [List.setIfInBounds_toArray, List.set_cons_zero, List.set_cons_succ]
  have hLL := ints_lit V2 [0, (k1 : Int), (k2 : Int), ((s.length : Int) - 1), (s.length : Int), (-1)] (#[.int .i64 0, .int .i64 (k1 : Int), .int .i64 (k2 : Int), .int .i64 ((s.length : Int) - 1), .int .i64 (s.length : Int), .int .i64 (-1)] : Array Value) 3 _ rfl (by simp)
  obtain ⟨g, hg⟩ : ∃ g, g = V2.heap.size := ⟨_, rfl⟩
  rw [← hg] at hLL ⊢
  have hgp : w.heap.size + 1 < g := by have := q2.cur.lt; omega
  clear q2 hg
  generalize V2.alloc (.cells #[.int .i64 0, .int .i64 (k1 : Int), .int .i64 (k2 : Int), .int .i64 ((s.length : Int) - 1), .int .i64 (s.length : Int), .int .i64 (-1)] 3) = V3 at q3 hLL ⊢
  refine wpAnyH_ready (rs := [22]) (by kernel_rfl) (by simp) ?_
  refine AllReadyH.consL rfl (fun K hK => ?_) AllReadyH.nil
  go_simp
  refine (among_any (w.heap.size + 1) A c l (600 + 2 + 2) _ 6 _ _ [0, (k1 : Int), (k2 : Int), ((s.length : Int) - 1), (s.length : Int), (-1)] _ q3.cur (by omega) hLL (.inr hgp) (by simp) (by simp)).mono ?_
  rintro e V4 ⟨_, rfl, ⟨y, _, rfl⟩, hC1, hFn⟩
  have q4 := q3.step (by simp) hFn hC1
  clear hFn hC1 hLL q3
  go_simp
  refine hK.out _ _ ⟨(q4.x 0 _ rfl).1, (q4.x 1 _ rfl).1, (q4.x 2 _ rfl).1⟩ (fun _ => ?_)
  clear hK K
  simp only [List.setIfInBounds_toArray, List.set_cons_zero, List.set_cons_succ]
  refine wpAnyH_ready (rs := [23]) (by kernel_rfl) (by simp) ?_
  refine AllReadyH.consL rfl (fun K hK => ?_) AllReadyH.nil
  obtain ⟨k0, f0⟩ := q4.z 0 _ rfl
  obtain ⟨k1_, f1⟩ := q4.z 1 _ rfl
  obtain ⟨k2_, f2⟩ := q4.z 2 _ rfl
  go_simp
  clear k0 k1_ k2_ f0 f1 f2
  have q5 := q4.store
  refine hK.out _ _ ⟨(q5.x 0 _ rfl).1, (q5.x 1 _ rfl).1, (q5.x 2 _ rfl).1⟩ (fun _ => ?_)
  clear hK K
  simp only [List.setIfInBounds_toArray, List.set_cons_zero, List.set_cons_succ]
  clear q4
  generalize (((V4.setCell ⟨w.heap.size, 0, none⟩ (.slice A1 s.length c1)).setCell ⟨w.heap.size, 1, none⟩ (.slice A2 r.length c2)).setCell ⟨w.heap.size, 2, none⟩ (.slice A3 h.length c3)) = V5 at q5 ⊢
  refine wpAnyH_takeL (i := 24) (v := .int .i64 y) rfl (by kernel_rfl) (by kernel_rfl) (by kernel_rfl) (fun _ _ _ h => h) (Or.inl ⟨by rfl, fun w' hSw => by obtain ⟨z0, z1, z2⟩ := hSw; go_simp⟩) ⟨(q5.x 0 _ rfl).1, (q5.x 1 _ rfl).1, (q5.x 2 _ rfl).1⟩ ?_
  simp only [Act.put, List.setIfInBounds_toArray, List.set_cons_zero, List.set_cons_succ]
  refine wpAnyH_done (by kernel_rfl) ?_ _
  have z0 := (q5.z 0 _ rfl).1
  have z1 := (q5.z 1 _ rfl).1
  have z2 := (q5.z 2 _ rfl).1
  go_wp2
  refine bodyPost_ret (by simp [results, Tryz.results7, go_sem, z0, z1, z2]; try rfl) rfl ?_
  exact ⟨A1, c1, s, A2, c2, r, A3, c3, h, y, rfl, ⟨hl1, hm1, q5.o.lift (by omega)⟩, q5.b⟩
set_option maxRecDepth 100000 in
set_option maxHeartbeats 8000000 in
theorem DrawConfirm_any (A : Option Addr) (c : Nat) (l : List Int) (w : World) (hl : l.length ≤ maxLen) (hm : ∀ x ∈ l, 0 ≤ x ∧ x ≤ 255) (hS : Sl byE 1 w 0 w.heap.size A l) :
    Calls Tryz.prog 13 #[.slice A l.length c] w fun e w' => ∃ (A1 : Option Addr) (c1 : Nat) (s : List Msg) (A2 : Option Addr) (c2 : Nat) (r : List Msg) (A3 : Option Addr) (c3 : Nat) (h : List Msg) (i : Int), e = .returned (.tuple #[.agg #[.slice A1 s.length c1, .slice A2 r.length c2, .slice A3 h.length c3], .int .i64 i]) ∧ ChD w.heap.size w' A1 c1 s A2 c2 r A3 c3 h ∧ Below w.heap.size w w' := by
  have hS0 := (hS.alloc (.cells #[.slice none 0 0, .slice none 0 0, .slice none 0 0] 26)).all
  have hC0 := Cur.new (w.alloc (.cells #[.slice none 0 0, .slice none 0 0, .slice none 0 0] 26)) A c l 86 (w.heap.size + 1) (by simp) hS0 hm hl
  have hR : BN w.heap.size [.slice none 0 0, .slice none 0 0, .slice none 0 0] ((w.alloc (.cells #[.slice none 0 0, .slice none 0 0, .slice none 0 0] 26)).alloc (.cells #[.slice A l.length c, .int .i64 0, .int .u64 0] 86)) := (BN.new w #[.slice none 0 0, .slice none 0 0, .slice none 0 0] 26 w.heap.size rfl).below (by simp) ((Below.refl _ _).alloc (Nat.le_refl _) (.cells #[.slice A l.length c, .int .i64 0, .int .u64 0] 86))
  have hB : Below w.heap.size w ((w.alloc (.cells #[.slice none 0 0, .slice none 0 0, .slice none 0 0] 26)).alloc (.cells #[.slice A l.length c, .int .i64 0, .int .u64 0] 86)) := by go_grown
  have hz : w.heap.size + 2 ≤ ((w.alloc (.cells #[.slice none 0 0, .slice none 0 0, .slice none 0 0] 26)).alloc (.cells #[.slice A l.length c, .int .i64 0, .int .u64 0] 86)).heap.size := by simp
  clear hS0 hl hm
  go_enter Tryz.func13, Tryz.ntmps13
  go_wp2_with fail
  refine (channel_any (w.heap.size + 1) A c l 0 _ hC0 (by omega)).mono ?_
  rintro e w1 ⟨A1, c1, s, A2, c2, r, A3, c3, h, rfl, hl1, hm1, hO, hC1, hFn⟩
  replace hO := hO.lift hz
  replace hR := hR.fr hFn (by simp) (.inl (by omega))
  replace hB := hB.trans (hFn.below (B := w.heap.size) (by omega) hB.size)
  replace hz := Nat.le_trans hz hFn.size
  clear hFn hC0
  have hcd : Sl byE 1 w1 0 w.heap.size A l := hS.keep (fun b _ hb => hB.block b hb) hB.size
  have q : RD w w1.heap.size A c l 600 A1 c1 s A2 c2 r A3 c3 h [.slice none 0 0, .slice none 0 0, .slice none 0 0] (w1.alloc (.cells #[.slice A1 s.length c1, .slice A2 r.length c2, .slice A3 h.length c3] 26)) := ⟨BN.new w1 #[.slice A1 s.length c1, .slice A2 r.length c2, .slice A3 h.length c3] 26 _ rfl, hO.below ((Below.refl _ _).alloc (Nat.le_refl _) _), hR.below (by simp) ((Below.refl _ _).alloc (Nat.le_refl _) _), (hC1.more (by omega)).alloc _, hcd.keep (fun b _ hb => ((Below.refl w1.heap.size w1).alloc (Nat.le_refl _) _).block b (by omega)) (by simp), hB.alloc hB.size _, hz⟩
  clear hcd hO hR hC1 hB hS
  have hls : r.length ≤ 100 := by omega
  have hwp : IntKind.i64.wrap ((r.length : Int) + 1) = (r.length : Int) + 1 := IntWalk.i64_in _ (by omega)
  go_upto_region 3 with fail
  generalize w1.heap.size = bx at q ⊢
  generalize w1.alloc (.cells #[.slice A1 s.length c1, .slice A2 r.length c2, .slice A3 h.length c3] 26) = w1B at q ⊢
  have q1_ := q.below (by simp) (Below.refl _ _).drew
  refine wp_region_held_drew (S := (fun w' => w'.cell? ⟨bx, 0, none⟩ = some (.slice A1 s.length c1) ∧ w'.cell? ⟨bx, 1, none⟩ = some (.slice A2 r.length c2) ∧ w'.cell? ⟨bx, 2, none⟩ = some (.slice A3 h.length c3))) (by kernel_rfl) ⟨(q1_.x 0 _ rfl).1, (q1_.x 1 _ rfl).1, (q1_.x 2 _ rfl).1⟩ (fun hHeld => ?_)
  clear hHeld q
  generalize w1B.drew = V0 at q1_ ⊢
  have q0 := q1_
  clear q1_
  change wpAnyH _ _ _ _ _ 21 #[false, false, false, false, false, false, false, false, false, false, false, false, false, false, false, false, false, false, false, false, false] _ _
  refine wpAnyH_takeL (i := 0) (v := .agg #[.slice A1 s.length c1, .slice A2 r.length c2, .slice A3 h.length c3]) rfl (by kernel_rfl) (by kernel_rfl) (by kernel_rfl) (fun _ _ _ h => h) (Or.inl ⟨by rfl, fun w' hSw => by obtain ⟨z0, z1, z2⟩ := hSw; go_simp⟩) ⟨(q0.x 0 _ rfl).1, (q0.x 1 _ rfl).1, (q0.x 2 _ rfl).1⟩ ?_
  simp only [Act.put, List.setIfInBounds_toArray, List.set_cons_zero, List.set_cons_succ]
  refine wpAnyH_takeL (i := 1) (v := .pointer (some ⟨w.heap.size + 1, 0, none⟩)) rfl (by kernel_rfl) (by kernel_rfl) (by kernel_rfl) (fun _ _ _ h => h) (Or.inl ⟨by rfl, fun w' hSw => by obtain ⟨z0, z1, z2⟩ := hSw; go_simp⟩) ⟨(q0.x 0 _ rfl).1, (q0.x 1 _ rfl).1, (q0.x 2 _ rfl).1⟩ ?_
  simp only [Act.put, List.setIfInBounds_toArray, List.set_cons_zero, List.set_cons_succ]
  refine wpAnyH_takeL (i := 2) (v := .pointer (some ⟨w.heap.size + 1, 0, none⟩)) rfl (by kernel_rfl) (by kernel_rfl) (by kernel_rfl) (fun _ _ _ h => h) (Or.inl ⟨by rfl, fun w' hSw => by obtain ⟨z0, z1, z2⟩ := hSw; go_simp⟩) ⟨(q0.x 0 _ rfl).1, (q0.x 1 _ rfl).1, (q0.x 2 _ rfl).1⟩ ?_
  simp only [Act.put, List.setIfInBounds_toArray, List.set_cons_zero, List.set_cons_succ]
  refine wpAnyH_takeL (i := 3) (v := .pointer (some ⟨bx, 1, none⟩)) rfl (by kernel_rfl) (by kernel_rfl) (by kernel_rfl) (fun _ _ _ h => h) (Or.inl ⟨by rfl, fun w' hSw => by obtain ⟨z0, z1, z2⟩ := hSw; go_simp⟩) ⟨(q0.x 0 _ rfl).1, (q0.x 1 _ rfl).1, (q0.x 2 _ rfl).1⟩ ?_
  simp only [Act.put, List.setIfInBounds_toArray, List.set_cons_zero, List.set_cons_succ]
  refine wpAnyH_takeL (i := 4) (v := .slice A2 r.length c2) rfl (by kernel_rfl) (by kernel_rfl) (by kernel_rfl) (fun _ _ _ h => h) (Or.inl ⟨by rfl, fun w' hSw => by obtain ⟨z0, z1, z2⟩ := hSw; go_simp⟩) ⟨(q0.x 0 _ rfl).1, (q0.x 1 _ rfl).1, (q0.x 2 _ rfl).1⟩ ?_
  simp only [Act.put, List.setIfInBounds_toArray, List.set_cons_zero, List.set_cons_succ]
  refine wpAnyH_takeL (i := 5) (v := .int .i64 (r.length : Int)) rfl (by kernel_rfl) (by kernel_rfl) (by kernel_rfl) (fun _ _ _ h => h) (Or.inl ⟨by rfl, fun w' hSw => by obtain ⟨z0, z1, z2⟩ := hSw; go_simp⟩) ⟨(q0.x 0 _ rfl).1, (q0.x 1 _ rfl).1, (q0.x 2 _ rfl).1⟩ ?_
  simp only [Act.put, List.setIfInBounds_toArray, List.set_cons_zero, List.set_cons_succ]
  refine wpAnyH_takeL (i := 6) (v := .int .i64 ((r.length : Int) + 1)) rfl (by kernel_rfl) (by kernel_rfl) (by kernel_rfl) (fun _ _ _ h => h) (Or.inl ⟨by rfl, fun w' hSw => by obtain ⟨z0, z1, z2⟩ := hSw; go_simp⟩) ⟨(q0.x 0 _ rfl).1, (q0.x 1 _ rfl).1, (q0.x 2 _ rfl).1⟩ ?_
  simp only [Act.put, List.setIfInBounds_toArray, List.set_cons_zero, List.set_cons_succ]
  refine wpAnyH_takeL (i := 8) (v := .pointer (some ⟨w.heap.size + 1, 0, none⟩)) rfl (by kernel_rfl) (by kernel_rfl) (by kernel_rfl) (fun _ _ _ h => h) (Or.inl ⟨by rfl, fun w' hSw => by obtain ⟨z0, z1, z2⟩ := hSw; go_simp⟩) ⟨(q0.x 0 _ rfl).1, (q0.x 1 _ rfl).1, (q0.x 2 _ rfl).1⟩ ?_
  simp only [Act.put, List.setIfInBounds_toArray, List.set_cons_zero, List.set_cons_succ]
  refine wpAnyH_takeL (i := 9) (v := .pointer (some ⟨bx, 1, none⟩)) rfl (by kernel_rfl) (by kernel_rfl) (by kernel_rfl) (fun _ _ _ h => h) (Or.inl ⟨by rfl, fun w' hSw => by obtain ⟨z0, z1, z2⟩ := hSw; go_simp⟩) ⟨(q0.x 0 _ rfl).1, (q0.x 1 _ rfl).1, (q0.x 2 _ rfl).1⟩ ?_
  simp only [Act.put, List.setIfInBounds_toArray, List.set_cons_zero, List.set_cons_succ]
  refine wpAnyH_takeL (i := 10) (v := .slice A2 r.length c2) rfl (by kernel_rfl) (by kernel_rfl) (by kernel_rfl) (fun _ _ _ h => h) (Or.inl ⟨by rfl, fun w' hSw => by obtain ⟨z0, z1, z2⟩ := hSw; go_simp⟩) ⟨(q0.x 0 _ rfl).1, (q0.x 1 _ rfl).1, (q0.x 2 _ rfl).1⟩ ?_
  simp only [Act.put, List.setIfInBounds_toArray, List.set_cons_zero, List.set_cons_succ]
  refine wpAnyH_takeL (i := 11) (v := .int .i64 (r.length : Int)) rfl (by kernel_rfl) (by kernel_rfl) (by kernel_rfl) (fun _ _ _ h => h) (Or.inl ⟨by rfl, fun w' hSw => by obtain ⟨z0, z1, z2⟩ := hSw; go_simp⟩) ⟨(q0.x 0 _ rfl).1, (q0.x 1 _ rfl).1, (q0.x 2 _ rfl).1⟩ ?_
  simp only [Act.put, List.setIfInBounds_toArray, List.set_cons_zero, List.set_cons_succ]
  refine wpAnyH_takeL (i := 12) (v := .int .i64 ((r.length : Int) + 1)) rfl (by kernel_rfl) (by kernel_rfl) (by kernel_rfl) (fun _ _ _ h => h) (Or.inl ⟨by rfl, fun w' hSw => by obtain ⟨z0, z1, z2⟩ := hSw; go_simp⟩) ⟨(q0.x 0 _ rfl).1, (q0.x 1 _ rfl).1, (q0.x 2 _ rfl).1⟩ ?_
  simp only [Act.put, List.setIfInBounds_toArray, List.set_cons_zero, List.set_cons_succ]
  refine wpAnyH_takeL (i := 14) (v := .pointer (some ⟨bx, 1, none⟩)) rfl (by kernel_rfl) (by kernel_rfl) (by kernel_rfl) (fun _ _ _ h => h) (Or.inl ⟨by rfl, fun w' hSw => by obtain ⟨z0, z1, z2⟩ := hSw; go_simp⟩) ⟨(q0.x 0 _ rfl).1, (q0.x 1 _ rfl).1, (q0.x 2 _ rfl).1⟩ ?_
  simp only [Act.put, List.setIfInBounds_toArray, List.set_cons_zero, List.set_cons_succ]
  refine wpAnyH_takeL (i := 15) (v := .slice A2 r.length c2) rfl (by kernel_rfl) (by kernel_rfl) (by kernel_rfl) (fun _ _ _ h => h) (Or.inl ⟨by rfl, fun w' hSw => by obtain ⟨z0, z1, z2⟩ := hSw; go_simp⟩) ⟨(q0.x 0 _ rfl).1, (q0.x 1 _ rfl).1, (q0.x 2 _ rfl).1⟩ ?_
  simp only [Act.put, List.setIfInBounds_toArray, List.set_cons_zero, List.set_cons_succ]
  refine wpAnyH_takeL (i := 16) (v := .int .i64 (r.length : Int)) rfl (by kernel_rfl) (by kernel_rfl) (by kernel_rfl) (fun _ _ _ h => h) (Or.inl ⟨by rfl, fun w' hSw => by obtain ⟨z0, z1, z2⟩ := hSw; go_simp⟩) ⟨(q0.x 0 _ rfl).1, (q0.x 1 _ rfl).1, (q0.x 2 _ rfl).1⟩ ?_
  simp only [Act.put, List.setIfInBounds_toArray, List.set_cons_zero, List.set_cons_succ]
  refine wpAnyH_ready (rs := [7]) (by kernel_rfl) (by simp) ?_
  refine AllReadyH.consL rfl (fun K hK => ?_) AllReadyH.nil
  go_simp
  refine (pick_any (w.heap.size + 1) A c l 600 _ _ q0.cur (by omega) (by omega)).mono ?_
  rintro e V6 ⟨_, rfl, ⟨k1, rfl, _⟩, hC1, hFn⟩
  have q6 := q0.step (by simp) hFn hC1
  clear hFn hC1 q0
  go_simp
  refine hK.out _ _ ⟨(q6.x 0 _ rfl).1, (q6.x 1 _ rfl).1, (q6.x 2 _ rfl).1⟩ (fun _ => ?_)
  clear hK K
  simp only [List.setIfInBounds_toArray, List.set_cons_zero, List.set_cons_succ]
  refine wpAnyH_ready (rs := [13]) (by kernel_rfl) (by simp) ?_
  refine AllReadyH.consL rfl (fun K hK => ?_) AllReadyH.nil
  go_simp
  refine (pick_any (w.heap.size + 1) A c l (600 + 2) _ _ q6.cur (by omega) (by omega)).mono ?_
  rintro e V7 ⟨_, rfl, ⟨k2, rfl, _⟩, hC1, hFn⟩
  have q7 := q6.step (by simp) hFn hC1
  clear hFn hC1 q6
  go_simp
  refine hK.out _ _ ⟨(q7.x 0 _ rfl).1, (q7.x 1 _ rfl).1, (q7.x 2 _ rfl).1⟩ (fun _ => ?_)
  clear hK K
  simp only [List.setIfInBounds_toArray, List.set_cons_zero, List.set_cons_succ]
  refine wpAnyH_ready (rs := [17]) (by kernel_rfl) (by simp) ?_
  refine AllReadyH.consL rfl (fun K hK => ?_) AllReadyH.nil
  go_simp
  have q8 := q7.below (by simp) ((Below.refl V7.heap.size V7).alloc (Nat.le_refl _) (.cells #[.int .i64 0, .int .i64 (k1 : Int), .int .i64 (k2 : Int), .int .i64 (r.length : Int), .int .i64 (-1)] 3))
  refine hK.out _ _ ⟨(q8.x 0 _ rfl).1, (q8.x 1 _ rfl).1, (q8.x 2 _ rfl).1⟩ (fun _ => ?_)
  clear hK K
  simp only [List.setIfInBounds_toArray, List.set_cons_zero, List.set_cons_succ]
  have hLL := ints_lit V7 [0, (k1 : Int), (k2 : Int), (r.length : Int), (-1)] (#[.int .i64 0, .int .i64 (k1 : Int), .int .i64 (k2 : Int), .int .i64 (r.length : Int), .int .i64 (-1)] : Array Value) 3 _ rfl (by simp)
  obtain ⟨g, hg⟩ : ∃ g, g = V7.heap.size := ⟨_, rfl⟩
  rw [← hg] at hLL ⊢
  have hgp : w.heap.size + 1 < g := by have := q7.cur.lt; omega
  clear q7 hg
  generalize V7.alloc (.cells #[.int .i64 0, .int .i64 (k1 : Int), .int .i64 (k2 : Int), .int .i64 (r.length : Int), .int .i64 (-1)] 3) = V8 at q8 hLL ⊢
  refine wpAnyH_ready (rs := [18]) (by kernel_rfl) (by simp) ?_
  refine AllReadyH.consL rfl (fun K hK => ?_) AllReadyH.nil
  go_simp
  refine (among_any (w.heap.size + 1) A c l (600 + 2 + 2) _ 5 _ _ [0, (k1 : Int), (k2 : Int), (r.length : Int), (-1)] _ q8.cur (by omega) hLL (.inr hgp) (by simp) (by simp)).mono ?_
  rintro e V9 ⟨_, rfl, ⟨y, _, rfl⟩, hC1, hFn⟩
  have q9 := q8.step (by simp) hFn hC1
  clear hFn hC1 hLL q8
  go_simp
  refine hK.out _ _ ⟨(q9.x 0 _ rfl).1, (q9.x 1 _ rfl).1, (q9.x 2 _ rfl).1⟩ (fun _ => ?_)
  clear hK K
  simp only [List.setIfInBounds_toArray, List.set_cons_zero, List.set_cons_succ]
  refine wpAnyH_ready (rs := [19]) (by kernel_rfl) (by simp) ?_
  refine AllReadyH.consL rfl (fun K hK => ?_) AllReadyH.nil
  obtain ⟨k0, f0⟩ := q9.z 0 _ rfl
  obtain ⟨k1_, f1⟩ := q9.z 1 _ rfl
  obtain ⟨k2_, f2⟩ := q9.z 2 _ rfl
  go_simp
  clear k0 k1_ k2_ f0 f1 f2
  have q10 := q9.store
  refine hK.out _ _ ⟨(q10.x 0 _ rfl).1, (q10.x 1 _ rfl).1, (q10.x 2 _ rfl).1⟩ (fun _ => ?_)
  clear hK K
  simp only [List.setIfInBounds_toArray, List.set_cons_zero, List.set_cons_succ]
  clear q9
  generalize (((V9.setCell ⟨w.heap.size, 0, none⟩ (.slice A1 s.length c1)).setCell ⟨w.heap.size, 1, none⟩ (.slice A2 r.length c2)).setCell ⟨w.heap.size, 2, none⟩ (.slice A3 h.length c3)) = V10 at q10 ⊢
  refine wpAnyH_takeL (i := 20) (v := .int .i64 y) rfl (by kernel_rfl) (by kernel_rfl) (by kernel_rfl) (fun _ _ _ h => h) (Or.inl ⟨by rfl, fun w' hSw => by obtain ⟨z0, z1, z2⟩ := hSw; go_simp⟩) ⟨(q10.x 0 _ rfl).1, (q10.x 1 _ rfl).1, (q10.x 2 _ rfl).1⟩ ?_
  simp only [Act.put, List.setIfInBounds_toArray, List.set_cons_zero, List.set_cons_succ]
  refine wpAnyH_done (by kernel_rfl) ?_ _
  have z0 := (q10.z 0 _ rfl).1
  have z1 := (q10.z 1 _ rfl).1
  have z2 := (q10.z 2 _ rfl).1
  go_wp2
  refine bodyPost_ret (by simp [results, Tryz.results13, go_sem, z0, z1, z2]; try rfl) rfl ?_
  exact ⟨A1, c1, s, A2, c2, r, A3, c3, h, y, rfl, ⟨hl1, hm1, q10.o.lift (by omega)⟩, q10.b⟩
end Go.Proofs.YtjmjilkpckbpeaaGreatDoor

/- Drawing logs: what it returns, and that only the cursor changes. Conditions: a valid cursor, fewer than 2^39 steps. -/
import Derived.Test.YtmdmcjhodhphgaaGreatDoorDrwB
import Derived.Test.YtmdmcjhodhphgaaGreatDoorCopy
namespace Go.Proofs.YtmdmcjhodhphgaaGreatDoor
open Go.RowKit

theorem Fr.more {lo hi B : Nat} {w W W' : World} (h : Fr lo hi w W) (k : Below B W W') (hB : w.heap.size ≤ B) : Fr lo hi w W' :=
  ⟨k.os.trans h.os, k.tape.trans h.tape, k.output.trans h.output, Nat.le_trans h.size k.size, fun b hb hd => (k.block b (by omega)).trans (h.block b hb hd)⟩
def lenOf : Value → Nat
  | .slice _ n _ => n
  | _ => 0
def strOf : Value → Nat
  | .string s => s.size
  | _ => 0
/-- The call returned a list in a row of its own, and a bool. -/
def RO2 (w : World) (R : List Ent) (B : Bool) (e : Ending) (w' : World) : Prop :=
  ∃ A c, e = .returned (.tuple #[.slice A R.length c, .bool B]) ∧ Own Ent.cells 4 33 w' w.heap.size A c R ∧ Below w.heap.size w w'
theorem RO2.nil_ {w w' : World} {R : List Ent} {B : Bool} (h1 : R = []) (h2 : B = false) (hb : Below w.heap.size w w') : RO2 w R B (.returned (.tuple #[.slice none 0 0, .bool false])) w' := by
  subst h1 h2
  exact ⟨none, 0, rfl, Own.nil_, hb⟩
theorem RO2.own {w w' : World} {R l : List Ent} {B b : Bool} {n c : Nat} {A : Option Addr} (h1 : R = l) (hn : n = l.length) (h2 : B = b) (hO : Own Ent.cells 4 33 w' w.heap.size A c l) (hb : Below w.heap.size w w') : RO2 w R B (.returned (.tuple #[.slice A n c, .bool b])) w' := by
  subst h1 hn h2
  exact ⟨A, c, rfl, hO, hb⟩
theorem log_small {l : List Ent} (h : logB l = true) : ∀ x ∈ l, x.t.size ≤ 41 := fun x hx => by
  obtain ⟨k, hk⟩ := List.mem_iff_getElem?.1 hx
  have hlt := (List.getElem?_eq_some_iff.1 hk).1
  obtain ⟨y, hy, _⟩ := get_lt (l := l) (i := 0) (by omega)
  obtain ⟨z, hz, _⟩ := get_lt (l := l) (i := k - 1) (by omega)
  unfold logB at h
  rw [Bool.and_eq_true] at h
  have := List.all_eq_true.1 h.1 k (List.mem_range.2 hlt)
  rw [okAt_eq hk hy hz] at this
  simp only [Bool.and_eq_true, entB, textB, decide_eq_true_eq] at this
  omega
theorem logB_nil : logB [] = true := rfl
set_option maxHeartbeats 1000000 in
theorem lgAppend_own (Al : Option Addr) (cl : Nat) (l : List Ent) (r : Int) (m : Int) (t : ByteArray) (w : World) (_hll : l.length ≤ 1048576) (hml : ∀ x ∈ l, x.t.size ≤ 1048576) (hSl : Ents w 0 w.heap.size Al l) (_hcl : l.length ≤ cl) (hst : t.size ≤ 1048576) :
    Calls Tryz.prog 56 #[.slice Al l.length cl, .int .i64 r, .int .i64 m, .string t] w (RO2 w (lgAppR l r m t) (logB (appL l r m t))) := by
  obtain ⟨i0, hi0, hz0, hz1, hz2⟩ := info_parts Ent.info
  go_enter Tryz.func56, Tryz.ntmps56
  go_wp2_with (first
    | (at_builtin; refine wpList_append_all _ rfl (.tmp 11) (.tmp 12) _ rfl i0 _ _ Tryz.underlying24 hi0 hz0 hz1 hz2 rfl (by omega) Ent.len Ent.one (Own.empty w (Nat.le_refl _)) (hSl.alloc _) rfl rfl (by unfold maxLen; first | omega | (simp; omega)) (by first | omega | (simp; omega)) (by first | exact Nat.le_refl _ | (simp; done) | omega) ?_; intro A1 c1 w1 L0 hL0 hO1 hB; obtain rfl : l = L0 := hL0.out.symm; have hB1 : Below w.heap.size w w1 := Below.trans (by go_grown) hB; have hz9 := hB1.size; clear hB hL0)
    | (at_builtin; refine wpList_append_one _ rfl (.tmp 13) (.tmp 21) _ rfl i0 _ _ Tryz.underlying24 hi0 hz0 hz1 hz2 rfl (by omega) Ent.len Ent.one (⟨r, (l.length : Int) + 1, m, t⟩ : Ent) _ (hO1.alloc _) rfl rfl (new_cells _ _ _ _ rfl) (by unfold maxLen; first | omega | (simp; omega)) (by first | omega | (simp; omega)) (by simp; omega) ?_; intro A2 c2 w2 L hL hO2 hB))
  replace hL : Hid (L = appL l r m t) := hL
  have hlen : L.length = l.length + 1 := by rw [hL.out]; simp [appL]
  have hlen1 : L.length ≤ maxLen := by unfold maxLen; omega
  have hmL : ∀ x ∈ L, x.t.size ≤ maxLen := by
    intro x hx
    rw [hL.out, appL, List.mem_append] at hx
    rcases hx with hx | hx
    · exact big (hml x hx)
    · rw [List.mem_singleton] at hx; subst hx; exact big hst
  have hB2 : Below w.heap.size w w2 := Below.trans (by go_grown) hB
  clear hi0 hz0 hz1 hz2 hB hlen
  go_wp2_with fail
  refine (lgGood_any A2 c2 L _ hlen1 hmL (hO2.sl Ent.len).all).mono ?_
  rintro e w3 ⟨rfl, hb⟩
  have hb3 : Below w2.heap.size w2 w3 := Below.on' (by go_grown) hb
  clear hb
  have hB3 : Below w.heap.size w w3 := Below.on' hB2 hb3
  replace hO2 := hO2.below hb3
  by_cases g3 : logB L = true
  rotate_left
  · have g3 : logB L = false := by simpa using g3
    have HR : Hid (lgAppR l r m t = [] ∧ logB (appL l r m t) = false) := Lib.hid (by rw [← hL.out]; simp [lgAppR, ← hL.out, g3])
    clear hO2
    go_wp2
    go_ret2
    exact RO2.nil_ HR.out.1 HR.out.2 hB3
  have HR : Hid (lgAppR l r m t = L ∧ logB (appL l r m t) = true) := Lib.hid (by rw [← hL.out]; simp [lgAppR, ← hL.out, g3])
  go_wp2
  go_ret2
  exact RO2.own HR.out.1 rfl HR.out.2 hO2 hB3
set_option maxHeartbeats 4000000 in
theorem entryWords_any (pb : Nat) (A : Option Addr) (c : Nat) (l : List Int) (N : Nat) (w : World) (hC : Cur pb A c l N w) (hN : N ≤ 900000000000) :
    Calls Tryz.prog 49 #[.pointer (some ⟨pb, 0, none⟩)] w (CS pb A c l (N + 8) 41 w) := by
  have hpb := hC.lt
  have hF := Fr.refl pb (pb + 1) w
  go_enter Tryz.func49, Tryz.ntmps49
  go_wp2_with fail
  refine (one_any pb A c l (N) 40 _ hC (by omega) (by omega)).mono ?_
  rintro e w1 ⟨_, rfl, ⟨b, rfl⟩, hC1, hFn⟩
  replace hF := hF.trans hFn
  clear hFn
  have hl1 := hC1.lt
  cases b with
  | true =>
    go_wp2_with fail
    refine (of_lit pb A c l (N + 2) [⟨#[]⟩, ⟨#[32, 120]⟩, ⟨#[120, 32]⟩, ⟨#[65]⟩, ⟨#[120, 44, 121]⟩, ⟨#[102, 111, 114, 116, 121, 32, 98, 121, 116, 101, 115, 32, 111, 102, 32, 116, 101, 120, 116, 44, 32, 111, 110, 101, 32, 109, 111, 114, 101, 32, 116, 104, 97, 110, 32, 97, 108, 108, 111, 119]⟩] 6 rfl 41 (List.forall_mem_cons.2 ⟨(by decide), (List.forall_mem_cons.2 ⟨(by decide), (List.forall_mem_cons.2 ⟨(by decide), (List.forall_mem_cons.2 ⟨(by decide), (List.forall_mem_cons.2 ⟨(by decide), (List.forall_mem_cons.2 ⟨(by decide), (fun _ h => nomatch h)⟩)⟩)⟩)⟩)⟩)⟩) _ _ _ _ (by simp) rfl hC1 (by omega) (by simp) (by simp)).mono ?_
    rintro e w2 ⟨s1, hs1, rfl, hC2, hFn⟩
    replace hF := hF.trans hFn
    clear hFn
    clear hC1
    have hl2 := hC2.lt
    go_wp2
    go_ret
    exact ⟨s1, hs1, rfl, hC2.more (by omega), hF⟩
  | false =>
    go_wp2_with fail
    refine (of_lit pb A c l (N + 2) [⟨#[112, 49, 32, 99, 97, 108, 108, 101, 100]⟩, ⟨#[112, 49, 32, 109, 111, 118, 105, 110, 103]⟩, ⟨#[112, 50, 32, 116, 104, 101, 114, 101]⟩, ⟨#[102, 105, 114, 101, 32, 97, 116, 32, 55, 58, 51, 48]⟩, ⟨#[99, 97, 110, 99, 101, 108, 32, 49]⟩, ⟨#[99, 97, 110, 99, 101, 108, 32, 50]⟩, ⟨#[99, 97, 110, 99, 101, 108, 32, 48, 51]⟩, ⟨#[99, 97, 110, 99, 101, 108]⟩, ⟨#[97, 105, 114, 32, 108, 111, 119, 32, 45, 32, 114, 101, 99, 97, 108, 108]⟩, ⟨#[111, 107]⟩] 10 rfl 16 (List.forall_mem_cons.2 ⟨(by decide), (List.forall_mem_cons.2 ⟨(by decide), (List.forall_mem_cons.2 ⟨(by decide), (List.forall_mem_cons.2 ⟨(by decide), (List.forall_mem_cons.2 ⟨(by decide), (List.forall_mem_cons.2 ⟨(by decide), (List.forall_mem_cons.2 ⟨(by decide), (List.forall_mem_cons.2 ⟨(by decide), (List.forall_mem_cons.2 ⟨(by decide), (List.forall_mem_cons.2 ⟨(by decide), (fun _ h => nomatch h)⟩)⟩)⟩)⟩)⟩)⟩)⟩)⟩)⟩)⟩) _ _ _ _ (by simp) rfl hC1 (by omega) (by simp) (by simp)).mono ?_
    rintro e w2 ⟨s1, hs1, rfl, hC2, hFn⟩
    replace hF := hF.trans hFn
    clear hFn
    clear hC1
    have hl2 := hC2.lt
    go_wp2_with fail
    refine (one_any pb A c l (N + 4) 20 _ hC2 (by omega) (by omega)).mono ?_
    rintro e w3 ⟨_, rfl, ⟨b2, rfl⟩, hC3, hFn⟩
    replace hF := hF.trans hFn
    clear hFn
    clear hC2
    have hl3 := hC3.lt
    cases b2 with
    | false =>
      go_wp2
      go_ret
      exact ⟨s1, by omega, rfl, hC3.more (by omega), hF⟩
    | true =>
      go_wp2_with fail
      refine (pick_any pb A c l (N + 6) 2 _ hC3 (by omega) (by omega)).mono ?_
      rintro e w4 ⟨_, rfl, ⟨k, rfl, hk⟩, hC4, hFn⟩
      replace hF := hF.trans hFn
      clear hFn
      clear hC3
      have hl4 := hC4.lt
      have hk2 : k ≤ 1 := by omega
      clear hk
      go_wp2_with fail
      go_loop [3] (fun s => ∃ t : ByteArray, s = .string t ∧ t.size ≤ 41) (fun s => 42 - strOf s)
      case atStart => exact ⟨s1, rfl, by omega⟩
      case round =>
        obtain ⟨t, rfl, ht⟩ := hrel
        by_cases hlt : t.size < 40 + k
        · have hlt' : (t.size : Int) < 40 + k := by omega
          go_wp2
          go_round
          case rel => exact ⟨t ++ ⟨#[120]⟩, rfl, by rw [ByteArray.size_append]; have : (⟨#[120]⟩ : ByteArray).size = 1 := rfl; omega⟩
          case measure => simp [strOf, ByteArray.size_append]; have : (⟨#[120]⟩ : ByteArray).size = 1 := rfl; omega
        · have hlt' : ¬ (t.size : Int) < 40 + k := by omega
          go_wp2
          go_ret
          exact ⟨t, ht, rfl, hC4, hF⟩
set_option maxHeartbeats 4000000 in
theorem logMinute_any (pb : Nat) (A : Option Addr) (c : Nat) (l : List Int) (N : Nat) (w : World) (hC : Cur pb A c l N w) (hN : N ≤ 900000000000) :
    Calls Tryz.prog 48 #[.pointer (some ⟨pb, 0, none⟩)] w (CI pb A c l (N + 4) w) := by
  have hpb := hC.lt
  have hF := Fr.refl pb (pb + 1) w
  go_enter Tryz.func48, Tryz.ntmps48
  go_wp2_with fail
  refine (among_lit pb A c l (N) [-1, 100000] 2 rfl _ _ _ _ (by simp) rfl hC (by omega) (by simp) (by simp)).mono ?_
  rintro e w1 ⟨k1, _, rfl, hC1, hFn⟩
  replace hF := hF.trans hFn
  clear hFn
  have hl1 := hC1.lt
  go_wp2_with fail
  refine (among_lit pb A c l (N + 2) [0, 5, 10, 20, 40, 99999, 99999, k1] 8 rfl _ _ _ _ (by simp) rfl hC1 (by omega) (by simp) (by simp)).mono ?_
  rintro e w2 ⟨k2, _, rfl, hC2, hFn⟩
  replace hF := hF.trans hFn
  clear hFn
  clear hC1
  have hl2 := hC2.lt
  go_wp2
  go_ret
  exact ⟨k2, rfl, hC2, hF⟩
set_option maxRecDepth 10000 in
set_option maxHeartbeats 8000000 in
theorem log_any (pb : Nat) (A : Option Addr) (c : Nat) (l : List Int) (N : Nat) (room : Int) (w : World) (hC : Cur pb A c l N w) (hN : N ≤ 800000000000) :
    Calls Tryz.prog 70 #[.pointer (some ⟨pb, 0, none⟩), .int .i64 room] w (fun e w' => ∃ (B : Option Addr) (d : Nat) (L : List Ent), e = .returned (.slice B L.length d) ∧ logB L = true ∧ Own Ent.cells 4 33 w' w.heap.size B d L ∧ Cur pb A c l (N + 300) w' ∧ Fr pb (pb + 1) w w') := by
  have hpb := hC.lt
  go_enter Tryz.func70, Tryz.ntmps70
  go_wp2_with fail
  refine (pick_any pb A c l N 10 _ hC (by omega) (by omega)).mono ?_
  rintro e w1 ⟨_, rfl, ⟨k1, rfl, hk1⟩, hC1, hF1⟩
  have hz1 := hF1.size
  have hk1' : k1 ≤ 9 := by omega
  clear hC hk1
  go_wp2_with fail
  refine (pick_any pb A c l (N + 2) 7 _ hC1 (by omega) (by omega)).mono ?_
  rintro e w2 ⟨_, rfl, ⟨k2, rfl, hk2⟩, hC2, hFn⟩
  have hF2 := hF1.trans hFn
  have hz2 := hFn.size
  have hk2' : k2 ≤ 24 := by omega
  clear hFn hC1 hF1 hk2
  go_wp2_with fail
  refine (one_any pb A c l (N + 4) 12 _ hC2 (by omega) (by omega)).mono ?_
  rintro e w3 ⟨_, rfl, ⟨b, rfl⟩, hC3, hFn⟩
  have hF3 := hF2.trans hFn
  have hz3 := hFn.size
  clear hFn hC2 hF2
  cases b
  case false =>
    go_wp2_with fail
    go_loopw [5, 6, 7] (fun o m n wr => ∃ (k : Nat) (mi : Int) (B : Option Addr) (d : Nat) (L : List Ent), n = .int .i64 k ∧ k ≤ 24 ∧ m = .int .i64 mi ∧ (0 ≤ mi ∧ mi ≤ 9 + 10 * (24 - k)) ∧ o = .slice B L.length d ∧ logB L = true ∧ Own Ent.cells 4 33 wr w.heap.size B d L ∧ Cur pb A c l (N + 6 + 10 * (24 - k)) wr ∧ Fr pb (pb + 1) w wr ∧ w.heap.size ≤ wr.heap.size) (fun _ _ n _ => (intOf n).toNat)
    case atStart => exact ⟨k2, (k1 : Int), none, 0, [], rfl, by omega, rfl, by omega, rfl, logB_nil, Own.nil_, hC3.more (by omega), hF3, by omega⟩
    case round =>
      clear hC3 hF3 hz1 hz2 hz3 hk1' hk2'
      obtain ⟨k, mi, B, d, L, rfl, hk, rfl, hmi, rfl, hL, hO, hC, hF, hz⟩ := hrel
      by_cases hlt : 0 < k
      · have hlt' : (0 : Int) < k := by omega
        go_wp2_with fail
        refine (entryWords_any pb A c l (N + 6 + 10 * (24 - k)) _ hC (by omega)).mono ?_
        rintro e w4 ⟨t, ht, rfl, hC4, hFn⟩
        have hO4 := hO.frm hFn (by omega)
        have hF4 := hF.trans hFn
        have hz4 := hFn.size
        clear hFn hC hF hO
        have hlL := logB_len hL
        go_wp2_with fail
        refine (lgAppend_own B d L room mi t w4 (by omega) (fun x hx => by have := log_small hL x hx; omega) (hO4.sl Ent.len).all hO4.cap (by omega)).mono ?_
        rintro e w5 ⟨B', d', rfl, hO', hb⟩
        have hO5 := hO4.below hb
        have hC5 := hC4.below hb
        have hF5 := hF4.more hb (by omega)
        have hz5 := hb.size
        replace hO' := hO'.lift (b0 := w.heap.size) (by omega)
        clear hb hC4 hF4 hO4
        obtain ⟨L', hL'⟩ : ∃ L', Hid (L' = lgAppR L room mi t) := ⟨_, Lib.hid rfl⟩
        rw [← hL'.out] at hO' ⊢
        cases g : logB (appL L room mi t) with
        | false =>
          clear hO' hL' g
          go_wp2_with fail
          refine (among_lit pb A c l (N + 6 + 10 * (24 - k) + 8) [0, 0, 1, 3, 10] 5 rfl _ _ _ _ (by simp) rfl hC5 (by omega) (by simp) (by simp)).mono ?_
          rintro e w6 ⟨v, hv, rfl, hC6, hFn⟩
          have hv' : 0 ≤ v ∧ v ≤ 10 := by simp at hv; omega
          have hO6 := hO5.frm hFn (by omega)
          have hF6 := hF5.trans hFn
          have hz6 := hFn.size
          clear hFn hC5 hF5 hO5 hv
          go_wp2
          go_roundw
          case rel => exact ⟨k - 1, mi + v, B, d, L, by first | go_num | (congr 1; omega), by omega, rfl, by omega, rfl, hL, hO6, hC6.more (by omega), hF6, by omega⟩
          case measure => simp [intOf]; omega
        | true =>
          have hL2 : logB L' = true := by rw [hL'.out, lgAppR, if_pos g]; exact g
          clear hO5 hL' g hlL
          go_wp2_with fail
          refine (among_lit pb A c l (N + 6 + 10 * (24 - k) + 8) [0, 0, 1, 3, 10] 5 rfl _ _ _ _ (by simp) rfl hC5 (by omega) (by simp) (by simp)).mono ?_
          rintro e w6 ⟨v, hv, rfl, hC6, hFn⟩
          have hv' : 0 ≤ v ∧ v ≤ 10 := by simp at hv; omega
          have hO6 := hO'.frm hFn (by omega)
          have hF6 := hF5.trans hFn
          have hz6 := hFn.size
          clear hFn hC5 hF5 hO' hv
          go_wp2
          go_roundw
          case rel => exact ⟨k - 1, mi + v, B', d', L', by first | go_num | (congr 1; omega), by omega, rfl, by omega, rfl, hL2, hO6, hC6.more (by omega), hF6, by omega⟩
          case measure => simp [intOf]; omega
      · obtain rfl : k = 0 := by omega
        go_wp2
        go_ret
        exact ⟨B, d, L, rfl, hL, hO, hC.more (by omega), hF⟩
  case true =>
    go_wp2_with fail
    go_loopw [5, 6, 7] (fun o m n wr => ∃ (k : Nat) (mi : Int) (B : Option Addr) (d : Nat) (L : List Ent), n = .int .i64 k ∧ k ≤ 24 ∧ m = .int .i64 mi ∧ (0 ≤ mi ∧ mi ≤ 9 + 10 * (24 - k)) ∧ o = .slice B L.length d ∧ logB L = true ∧ Own Ent.cells 4 33 wr w.heap.size B d L ∧ Cur pb A c l (N + 6 + 10 * (24 - k)) wr ∧ Fr pb (pb + 1) w wr ∧ w.heap.size ≤ wr.heap.size) (fun _ _ n _ => (intOf n).toNat)
    case atStart => exact ⟨24, (k1 : Int), none, 0, [], rfl, by omega, rfl, by omega, rfl, logB_nil, Own.nil_, hC3.more (by omega), hF3, by omega⟩
    case round =>
      clear hC3 hF3 hz1 hz2 hz3 hk1' hk2'
      obtain ⟨k, mi, B, d, L, rfl, hk, rfl, hmi, rfl, hL, hO, hC, hF, hz⟩ := hrel
      by_cases hlt : 0 < k
      · have hlt' : (0 : Int) < k := by omega
        go_wp2_with fail
        refine (entryWords_any pb A c l (N + 6 + 10 * (24 - k)) _ hC (by omega)).mono ?_
        rintro e w4 ⟨t, ht, rfl, hC4, hFn⟩
        have hO4 := hO.frm hFn (by omega)
        have hF4 := hF.trans hFn
        have hz4 := hFn.size
        clear hFn hC hF hO
        have hlL := logB_len hL
        go_wp2_with fail
        refine (lgAppend_own B d L room mi t w4 (by omega) (fun x hx => by have := log_small hL x hx; omega) (hO4.sl Ent.len).all hO4.cap (by omega)).mono ?_
        rintro e w5 ⟨B', d', rfl, hO', hb⟩
        have hO5 := hO4.below hb
        have hC5 := hC4.below hb
        have hF5 := hF4.more hb (by omega)
        have hz5 := hb.size
        replace hO' := hO'.lift (b0 := w.heap.size) (by omega)
        clear hb hC4 hF4 hO4
        obtain ⟨L', hL'⟩ : ∃ L', Hid (L' = lgAppR L room mi t) := ⟨_, Lib.hid rfl⟩
        rw [← hL'.out] at hO' ⊢
        cases g : logB (appL L room mi t) with
        | false =>
          clear hO' hL' g
          go_wp2_with fail
          refine (among_lit pb A c l (N + 6 + 10 * (24 - k) + 8) [0, 0, 1, 3, 10] 5 rfl _ _ _ _ (by simp) rfl hC5 (by omega) (by simp) (by simp)).mono ?_
          rintro e w6 ⟨v, hv, rfl, hC6, hFn⟩
          have hv' : 0 ≤ v ∧ v ≤ 10 := by simp at hv; omega
          have hO6 := hO5.frm hFn (by omega)
          have hF6 := hF5.trans hFn
          have hz6 := hFn.size
          clear hFn hC5 hF5 hO5 hv
          go_wp2
          go_roundw
          case rel => exact ⟨k - 1, mi + v, B, d, L, by first | go_num | (congr 1; omega), by omega, rfl, by omega, rfl, hL, hO6, hC6.more (by omega), hF6, by omega⟩
          case measure => simp [intOf]; omega
        | true =>
          have hL2 : logB L' = true := by rw [hL'.out, lgAppR, if_pos g]; exact g
          clear hO5 hL' g hlL
          go_wp2_with fail
          refine (among_lit pb A c l (N + 6 + 10 * (24 - k) + 8) [0, 0, 1, 3, 10] 5 rfl _ _ _ _ (by simp) rfl hC5 (by omega) (by simp) (by simp)).mono ?_
          rintro e w6 ⟨v, hv, rfl, hC6, hFn⟩
          have hv' : 0 ≤ v ∧ v ≤ 10 := by simp at hv; omega
          have hO6 := hO'.frm hFn (by omega)
          have hF6 := hF5.trans hFn
          have hz6 := hFn.size
          clear hFn hC5 hF5 hO' hv
          go_wp2
          go_roundw
          case rel => exact ⟨k - 1, mi + v, B', d', L', by first | go_num | (congr 1; omega), by omega, rfl, by omega, rfl, hL2, hO6, hC6.more (by omega), hF6, by omega⟩
          case measure => simp [intOf]; omega
      · obtain rfl : k = 0 := by omega
        go_wp2
        go_ret
        exact ⟨B, d, L, rfl, hL, hO, hC.more (by omega), hF⟩
theorem entry_snoc {l : List Ent} {x : Ent} (h : ∀ y ∈ l, y.t.size ≤ 41) (hx : x.t.size ≤ 41) : ∀ y ∈ l ++ [x], y.t.size ≤ 41 := fun y hy => by
  rcases List.mem_append.1 hy with h1 | h1
  · exact h y h1
  · rw [List.mem_singleton.1 h1]; exact hx
set_option maxRecDepth 10000 in
set_option maxHeartbeats 8000000 in
theorem anyLog_any (pb : Nat) (A : Option Addr) (c : Nat) (l : List Int) (N : Nat) (w : World) (hC : Cur pb A c l N w) (hN : N ≤ 700000000000) :
    Calls Tryz.prog 45 #[.pointer (some ⟨pb, 0, none⟩)] w (fun e w' => ∃ (B : Option Addr) (d : Nat) (L : List Ent), e = .returned (.slice B L.length d) ∧ L.length ≤ 21 ∧ (∀ y ∈ L, y.t.size ≤ 41) ∧ Own Ent.cells 4 33 w' w.heap.size B d L ∧ Cur pb A c l (N + 400) w' ∧ Fr pb (pb + 1) w w') := by
  obtain ⟨i0, hi0, hv0, hv1, hv2⟩ := info_parts Ent.info
  have hpb := hC.lt
  go_enter Tryz.func45, Tryz.ntmps45
  go_wp2_with fail
  refine (pick_any pb A c l N 2 _ hC (by omega) (by omega)).mono ?_
  rintro e w1 ⟨_, rfl, ⟨k1, rfl, hk1⟩, hC1, hF1⟩
  have hz1 := hF1.size
  have hk1' : k1 ≤ 1 := by omega
  clear hC hk1
  go_wp2_with fail
  refine (log_any pb A c l (N + 2) _ _ hC1 (by omega)).mono ?_
  rintro e w2 ⟨B, d, L, rfl, hlog, hO, hC2, hFn⟩
  have hL := logB_len hlog
  have hm := log_small hlog
  replace hO := hO.lift (b0 := w.heap.size) (by omega)
  have hF2 := hF1.trans hFn
  have hz2 := hFn.size
  clear hFn hC1 hF1 hlog hk1'
  go_wp2_with fail
  refine (pick_any pb A c l (N + 302) 30 _ hC2 (by omega) (by omega)).mono ?_
  rintro e w3 ⟨_, rfl, ⟨k, rfl, _⟩, hC3, hFn⟩
  replace hO := hO.frm hFn (by omega)
  have hF3 := hF2.trans hFn
  have hz3 := hFn.size
  clear hFn hC2 hF2
  by_cases e0 : k = 0
  · have q0 : ((k : Int) == 0) = true := by simp [e0]
    clear e0
    go_wp2_with fail
    refine (among_lit pb A c l (N + 304) [0, 1, 2, 3] 4 rfl _ _ _ _ (by simp) rfl hC3 (by omega) (by simp) (by simp)).mono ?_
    rintro e w4 ⟨v1, _, rfl, hC4, hFn⟩
    replace hO := hO.frm hFn (by omega)
    have hF4 := hF3.trans hFn
    have hz4 := hFn.size
    clear hFn hC3 hF3
    go_wp2_with fail
    refine (among_lit pb A c l (N + 306) [1, (L.length : Int) + 1, 0] 3 rfl _ _ _ _ (by simp) rfl hC4 (by omega) (by simp) (by simp)).mono ?_
    rintro e w5 ⟨v2, _, rfl, hC5, hFn⟩
    replace hO := hO.frm hFn (by omega)
    have hF5 := hF4.trans hFn
    have hz5 := hFn.size
    clear hFn hC4 hF4
    go_wp2_with fail
    refine (among_lit pb A c l (N + 308) [0, 99999, 100000, -1] 4 rfl _ _ _ _ (by simp) rfl hC5 (by omega) (by simp) (by simp)).mono ?_
    rintro e w6 ⟨v3, _, rfl, hC6, hFn⟩
    replace hO := hO.frm hFn (by omega)
    have hF6 := hF5.trans hFn
    have hz6 := hFn.size
    clear hFn hC5 hF5
    go_wp2_with fail
    refine (entryWords_any pb A c l (N + 310) _ hC6 (by omega)).mono ?_
    rintro e w7 ⟨s, hs, rfl, hC7, hFn⟩
    replace hO := hO.frm hFn (by omega)
    have hF7 := hF6.trans hFn
    have hz7 := hFn.size
    clear hFn hC6 hF6
    go_wp2_with (at_builtin; refine wpList_append_one _ rfl (.tmp 13) (.tmp 29) _ rfl i0 _ _ Tryz.underlying24 hi0 hv0 hv1 hv2 rfl (by omega) Ent.len Ent.one (⟨v1, v2, v3, s⟩ : Ent) _ (hO.alloc _) rfl rfl (new_cells_at _ _ _ _ _ (by simp) rfl) (by unfold maxLen; first | omega | (simp; omega)) (by first | omega | (simp; omega)) (by simp; omega) ?_; intro B' d' V L' hL' hO' hbV)
    have hbx : Below w.heap.size w7 V := ((Below.refl w.heap.size w7).alloc (by omega) _).trans hbV
    have hl2 : L'.length ≤ 21 := by rw [hL'.out, List.length_append]; simpa using hL
    have hm2 : ∀ y ∈ L', y.t.size ≤ 41 := by rw [hL'.out]; exact entry_snoc hm hs
    have hC8 := hC7.upto (by omega) hbx
    have hF8 := hF7.more hbx (by omega)
    clear hbx hbV hC7 hF7 hm hL' hi0 hv0 hv1 hv2 hO
    go_wp2
    go_ret
    exact ⟨B', d', L', rfl, hl2, hm2, hO', hC8.more (by omega), hF8⟩
  have q0 : ((k : Int) == 0) = false := by simp; omega
  by_cases e1 : k = 1
  · have q1 : ((k : Int) == 1) = true := by simp [e1]
    clear e0 e1
    go_wp2_with fail
    go_loopw [3] (fun o wr => ∃ (B : Option Addr) (d : Nat) (L : List Ent), o = .slice B L.length d ∧ L.length ≤ 21 ∧ (∀ y ∈ L, y.t.size ≤ 41) ∧ Own Ent.cells 4 33 wr w.heap.size B d L ∧ Cur pb A c l (N + 304) wr ∧ Fr pb (pb + 1) w wr ∧ w.heap.size ≤ wr.heap.size) (fun o _ => 21 - lenOf o)
    case atStart => exact ⟨B, d, L, rfl, by omega, hm, hO, hC3, hF3, by omega⟩
    case round =>
      clear hC3 hF3 hz1 hz2 hz3 q0 q1 hO hm hL
      obtain ⟨B, d, L, rfl, hL, hm, hO, hC1, hF, hz⟩ := hrel
      by_cases hlt : L.length < 21
      · have hlt' : (L.length : Int) < 21 := by omega
        go_wp2_with (at_builtin; refine wpList_append_one _ rfl (.tmp 36) (.tmp 41) _ rfl i0 _ _ Tryz.underlying24 hi0 hv0 hv1 hv2 rfl (by omega) Ent.len Ent.one (⟨1, (L.length : Int) + 1, 99999, ⟨#[120]⟩⟩ : Ent) _ (hO.alloc _) rfl rfl (new_cells_at _ _ _ _ _ (by simp) rfl) (by unfold maxLen; first | omega | (simp; omega)) (by first | omega | (simp; omega)) (by simp; omega) ?_; intro B' d' V L' hL' hO' hbV)
        clear hO
        have hbx : Below w.heap.size wr V := ((Below.refl w.heap.size wr).alloc (by omega) _).trans hbV
        have hl2 : L'.length = L.length + 1 := by rw [hL'.out, List.length_append]; rfl
        have hm2 : ∀ y ∈ L', y.t.size ≤ 41 := by rw [hL'.out]; exact entry_snoc hm (by show (⟨#[120]⟩ : ByteArray).size ≤ 41; decide)
        have hC4 := hC1.upto (by omega) hbx
        have hF3 := hF.more hbx (by omega)
        have hz3 := hbx.size
        clear hbx hbV hC1 hF hm hL'
        go_roundw
        case rel => exact ⟨B', d', L', rfl, by omega, hm2, hO', hC4, hF3, by omega⟩
        case measure => simp [lenOf]; omega
      · have hlt' : ¬ (L.length : Int) < 21 := by omega
        clear hi0 hv0 hv1 hv2
        go_wp2
        go_ret
        exact ⟨B, d, L, rfl, hL, hm, hO, hC1.more (by omega), hF⟩
  have q1 : ((k : Int) == 1) = false := by simp; omega
  clear e0 e1 hi0 hv0 hv1 hv2
  go_wp2
  go_ret
  exact ⟨B, d, L, rfl, by omega, hm, hO, hC3.more (by omega), hF3⟩
end Go.Proofs.YtmdmcjhodhphgaaGreatDoor

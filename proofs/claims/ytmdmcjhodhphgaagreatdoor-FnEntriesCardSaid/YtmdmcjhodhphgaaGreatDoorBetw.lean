/- The entries between two minutes, as the program and the reference find them. Conditions: lists and texts of at most 2^20. -/
import Derived.Test.YtmdmcjhodhphgaaGreatDoorCopy
import Derived.Test.YtmdmcjhodhphgaaGreatDoorInts
namespace Go.Proofs.YtmdmcjhodhphgaaGreatDoor
open Go.RowKit

def betF (f u : Int) : List Ent → Nat → List Int
  | [], _ => []
  | x :: l, i => if inB x.m f u = true then (i : Int) :: betF f u l (i + 1) else betF f u l (i + 1)
theorem betF_step {f u : Int} {l : List Ent} {k : Nat} {x : Ent} (hx : l[k]? = some x) : betF f u (l.drop k) k = if inB x.m f u = true then (k : Int) :: betF f u (l.drop (k + 1)) (k + 1) else betF f u (l.drop (k + 1)) (k + 1) := by
  obtain ⟨h1, rfl⟩ := List.getElem?_eq_some_iff.1 hx
  rw [List.drop_eq_getElem_cons h1]
  rfl
def betOk (l : List Ent) (f u : Int) : Bool := logB l && minB f && minB u && decide (f ≤ u)
def betR (l : List Ent) (f u : Int) : List Int := if betOk l f u = true then betF f u l 0 else []
theorem betF_len (f u : Int) : ∀ (l : List Ent) (i : Nat), (betF f u l i).length ≤ l.length
  | [], _ => Nat.le_refl _
  | x :: l, i => by
    have := betF_len f u l (i + 1)
    unfold betF
    split <;> simp <;> omega
theorem betR_len (l : List Ent) (f u : Int) : (betR l f u).length ≤ l.length := by
  unfold betR
  split
  · exact betF_len f u l 0
  · exact Nat.zero_le _
set_option maxRecDepth 100000 in
set_option maxHeartbeats 1000000 in
theorem EntriesBetween_spec (Al : Option Addr) (cl : Nat) (l : List Ent) (f : Int) (u : Int) (w : World) (hll : l.length ≤ 1048576) (hml : ∀ x ∈ l, x.t.size ≤ 1048576) (hSl : Ents w 0 w.heap.size Al l) (_hcl : l.length ≤ cl) :
    Calls Tryz.prog 29 #[.slice Al l.length cl, .int .i64 f, .int .i64 u] w (RS2 Ints.cells 1 w (betR l f u) (betOk l f u)) := by
  obtain ⟨i0, hi0, hz0, hz1, hz2⟩ := info_parts Ints.info
  have hSw0 := hSl
  go_enter Tryz.func29, Tryz.ntmps29
  go_wp2_with fail
  refine (lgGood_any Al cl l _ (big hll) (bigs hml) hSl).mono ?_
  rintro e w1 ⟨rfl, hb⟩
  have hb1 : Below w.heap.size w w1 := Below.on' (by go_grown) hb
  clear hb
  have hB1 : Below w.heap.size w w1 := hb1
  replace hSl := (hSl.below hb1).all
  by_cases g1 : logB l = true
  rotate_left
  · have g1 : logB l = false := by simpa using g1
    clear hi0 hz0 hz1 hz2
    go_wp2
    go_ret2
    exact RS2.nil_ (by simp [betR, betOk, g1]) (by simp [betOk, g1]) hB1
  go_wp2_with fail
  refine (lgMinute_any _ _).mono ?_
  rintro e w2 ⟨rfl, hb⟩
  have hb2 : Below w1.heap.size w1 w2 := Below.on' (by go_grown) hb
  clear hb
  have hB2 : Below w.heap.size w w2 := Below.on' hB1 hb2
  replace hSl := (hSl.below hb2).all
  by_cases g2 : minB f = true
  rotate_left
  · have g2 : minB f = false := by simpa using g2
    clear hi0 hz0 hz1 hz2
    go_wp2
    go_ret2
    exact RS2.nil_ (by simp [betR, betOk, g2]) (by simp [betOk, g2]) hB2
  go_wp2_with fail
  refine (lgMinute_any _ _).mono ?_
  rintro e w3 ⟨rfl, hb⟩
  have hb3 : Below w2.heap.size w2 w3 := Below.on' (by go_grown) hb
  clear hb
  have hB3 : Below w.heap.size w w3 := Below.on' hB2 hb3
  replace hSl := (hSl.below hb3).all
  by_cases g3 : minB u = true
  rotate_left
  · have g3 : minB u = false := by simpa using g3
    clear hi0 hz0 hz1 hz2
    go_wp2
    go_ret2
    exact RS2.nil_ (by simp [betR, betOk, g3]) (by simp [betOk, g3]) hB3
  by_cases g4 : f ≤ u
  rotate_left
  · have g5 : u < f := by omega
    have g6 : decide (f ≤ u) = false := by simp; omega
    have HN : Hid (betR l f u = [] ∧ betOk l f u = false) := Lib.hid ⟨by unfold betR; rw [if_neg (by rw [betOk, g6]; simp)], by rw [betOk, g6]; simp⟩
    clear g6
    clear hi0 hz0 hz1 hz2
    go_wp2
    go_ret2
    exact RS2.nil_ HN.out.1 HN.out.2 hB3
  have HR : Hid (betR l f u = betF f u l 0 ∧ betOk l f u = true) := Lib.hid (by simp [betR, betOk, g1, g2, g3, g4])
  have g5 : ¬ u < f := by omega
  have hzz := hB3.size
  go_wp2_with fail
  clear g1 g2 g3
  go_loopw [8, 31] (fun o i wr => ∃ (k : Nat) (A : Option Addr) (c : Nat) (r : List Int), k ≤ l.length ∧ i = .int .i64 k ∧ o = .slice A r.length c ∧ r.length ≤ k ∧ Own Ints.cells 1 3 wr w.heap.size A c r ∧ Hid (r ++ betF f u (l.drop k) k = betF f u l 0) ∧ Below w.heap.size w wr) (fun _ i _ => l.length - (intOf i).toNat)
  case atStart => exact ⟨0, none, 0, [], Nat.zero_le _, rfl, rfl, Nat.zero_le _, Own.nil_, Lib.hid rfl, hB3⟩
  case round =>
    obtain ⟨k, A, c, r, hk, rfl, rfl, hr, hO, HF, hB⟩ := hrel
    by_cases hlt : k < l.length
    · obtain ⟨x, hx, _⟩ := get_lt hlt
      have HC := Lib.hid (betF_step (f := f) (u := u) hx)
      have hSw : Ents w 0 w.heap.size Al l := hSw0
      obtain ⟨p, off, rfl, _, _, _, hf⟩ := (hSw.below hB).at_ hx
      have c0 : wr.cell? ⟨p, off + k * 4, none⟩ = some (.int .i64 x.r) := (hf 0 _ rfl).1
      have c1 : wr.cell? ⟨p, off + k * 4 + 1, none⟩ = some (.int .i64 x.n) := (hf 1 _ rfl).1
      have c2 : wr.cell? ⟨p, off + k * 4 + 2, none⟩ = some (.int .i64 x.m) := (hf 2 _ rfl).1
      have c3 : wr.cell? ⟨p, off + k * 4 + 3, none⟩ = some (.string x.t) := (hf 3 _ rfl).1
      clear hf hx
      go_wp2_with fail
      refine (l1In_any _ _ _ _).mono ?_
      rintro e wa ⟨rfl, hb⟩
      have hBb : Below wr.heap.size wr wa := Below.on' (by go_grown) hb
      have hBa : Below w.heap.size w wa := Below.on' hB hBb
      have hOa := hO.below hBb
      have hza := hBa.size
      clear hb hBb hO hB c0 c1 c2 c3
      by_cases hq : inB x.m f u = true
      · have HQ := Lib.hid (HC.out.trans (if_pos hq))
        clear HC
        go_wp2_with (at_builtin; refine wpList_append_one _ rfl (.tmp 41) (.tmp 43) _ rfl i0 _ _ Tryz.underlying37 hi0 hz0 hz1 hz2 rfl (by omega) Ints.len Ints.one (k : Int) _ (hOa.alloc _) rfl rfl (new_cells _ _ _ _ rfl) (by unfold maxLen; omega) (by omega) (by simp; omega) ?_; intro A2 c2 wb L hL hO2 hb2)
        have hlen : L.length = r.length + 1 := by rw [hL.out]; simp
        have hlen2 : L.length ≤ k + 1 := by omega
        clear hlen
        have hBc : Below w.heap.size w wb := Below.trans (by go_grown) hb2
        clear hb2 hOa
        go_roundw
        case rel =>
          refine ⟨k + 1, A2, c2, L, by omega, by go_num, rfl, hlen2, hO2, Lib.hid ?_, hBc⟩
          rw [hL.out, List.append_assoc, ← HF.out, HQ.out]
          rfl
        case measure => simp [intOf]; omega
      · have HQ := Lib.hid (HC.out.trans (if_neg hq))
        have hq : inB x.m f u = false := by simpa using hq
        clear HC
        go_wp2
        go_roundw
        case rel =>
          refine ⟨k + 1, A, c, r, by omega, by go_num, rfl, by omega, hOa, Lib.hid ?_, hBa⟩
          rw [← HF.out, HQ.out]
        case measure => simp [intOf]; omega
    · have hd : l.drop k = [] := List.drop_of_length_le (by omega)
      have HE : Hid (r = betF f u l 0) := Lib.hid (by have := HF.out; rw [hd] at this; simpa [betF] using this)
      clear hd HF hi0 hz0 hz1 hz2
      go_wp2
      go_ret2
      exact RS2.own (HR.out.1.trans HE.out.symm) rfl HR.out.2 Ints.len hO hB
set_option maxRecDepth 100000 in
set_option maxHeartbeats 1000000 in
theorem EntriesBetween_impl (Al : Option Addr) (cl : Nat) (l : List Ent) (f : Int) (u : Int) (w : World) (hll : l.length ≤ 1048576) (hml : ∀ x ∈ l, x.t.size ≤ 1048576) (hSl : Ents w 0 w.heap.size Al l) (_hcl : l.length ≤ cl) :
    Calls Tryz.prog 28 #[.slice Al l.length cl, .int .i64 f, .int .i64 u] w (RS2 Ints.cells 1 w (betR l f u) (betOk l f u)) := by
  obtain ⟨i0, hi0, hz0, hz1, hz2⟩ := info_parts Ints.info
  have hSw0 := hSl
  go_enter Tryz.func28, Tryz.ntmps28
  go_wp2_with fail
  refine (isLog_any Al cl l _ (big hll) (bigs hml) hSl).mono ?_
  rintro e w1 ⟨rfl, hb⟩
  have hb1 : Below w.heap.size w w1 := Below.on' (by go_grown) hb
  clear hb
  have hB1 : Below w.heap.size w w1 := hb1
  replace hSl := (hSl.below hb1).all
  by_cases g1 : logB l = true
  rotate_left
  · have g1 : logB l = false := by simpa using g1
    clear hi0 hz0 hz1 hz2
    go_wp2
    go_ret2
    exact RS2.nil_ (by simp [betR, betOk, g1]) (by simp [betOk, g1]) hB1
  go_wp2_with fail
  refine (isLogMinute_any _ _).mono ?_
  rintro e w2 ⟨rfl, hb⟩
  have hb2 : Below w1.heap.size w1 w2 := Below.on' (by go_grown) hb
  clear hb
  have hB2 : Below w.heap.size w w2 := Below.on' hB1 hb2
  replace hSl := (hSl.below hb2).all
  by_cases g2 : minB f = true
  rotate_left
  · have g2 : minB f = false := by simpa using g2
    clear hi0 hz0 hz1 hz2
    go_wp2
    go_ret2
    exact RS2.nil_ (by simp [betR, betOk, g2]) (by simp [betOk, g2]) hB2
  go_wp2_with fail
  refine (isLogMinute_any _ _).mono ?_
  rintro e w3 ⟨rfl, hb⟩
  have hb3 : Below w2.heap.size w2 w3 := Below.on' (by go_grown) hb
  clear hb
  have hB3 : Below w.heap.size w w3 := Below.on' hB2 hb3
  replace hSl := (hSl.below hb3).all
  by_cases g3 : minB u = true
  rotate_left
  · have g3 : minB u = false := by simpa using g3
    clear hi0 hz0 hz1 hz2
    go_wp2
    go_ret2
    exact RS2.nil_ (by simp [betR, betOk, g3]) (by simp [betOk, g3]) hB3
  by_cases g4 : f ≤ u
  rotate_left
  · have g5 : u < f := by omega
    have g6 : decide (f ≤ u) = false := by simp; omega
    have HN : Hid (betR l f u = [] ∧ betOk l f u = false) := Lib.hid ⟨by unfold betR; rw [if_neg (by rw [betOk, g6]; simp)], by rw [betOk, g6]; simp⟩
    clear g6
    clear hi0 hz0 hz1 hz2
    go_wp2
    go_ret2
    exact RS2.nil_ HN.out.1 HN.out.2 hB3
  have HR : Hid (betR l f u = betF f u l 0 ∧ betOk l f u = true) := Lib.hid (by simp [betR, betOk, g1, g2, g3, g4])
  have g5 : ¬ u < f := by omega
  have hzz := hB3.size
  go_wp2_with fail
  clear g1 g2 g3
  go_loopw [8, 31] (fun o i wr => ∃ (k : Nat) (A : Option Addr) (c : Nat) (r : List Int), k ≤ l.length ∧ i = .int .i64 k ∧ o = .slice A r.length c ∧ r.length ≤ k ∧ Own Ints.cells 1 3 wr w.heap.size A c r ∧ Hid (r ++ betF f u (l.drop k) k = betF f u l 0) ∧ Below w.heap.size w wr) (fun _ i _ => l.length - (intOf i).toNat)
  case atStart => exact ⟨0, none, 0, [], Nat.zero_le _, rfl, rfl, Nat.zero_le _, Own.nil_, Lib.hid rfl, hB3⟩
  case round =>
    obtain ⟨k, A, c, r, hk, rfl, rfl, hr, hO, HF, hB⟩ := hrel
    by_cases hlt : k < l.length
    · obtain ⟨x, hx, _⟩ := get_lt hlt
      have HC := Lib.hid (betF_step (f := f) (u := u) hx)
      have hSw : Ents w 0 w.heap.size Al l := hSw0
      obtain ⟨p, off, rfl, _, _, _, hf⟩ := (hSw.below hB).at_ hx
      have c0 : wr.cell? ⟨p, off + k * 4, none⟩ = some (.int .i64 x.r) := (hf 0 _ rfl).1
      have c1 : wr.cell? ⟨p, off + k * 4 + 1, none⟩ = some (.int .i64 x.n) := (hf 1 _ rfl).1
      have c2 : wr.cell? ⟨p, off + k * 4 + 2, none⟩ = some (.int .i64 x.m) := (hf 2 _ rfl).1
      have c3 : wr.cell? ⟨p, off + k * 4 + 3, none⟩ = some (.string x.t) := (hf 3 _ rfl).1
      clear hf hx
      go_wp2_with fail
      refine (inside_any _ _ _ _).mono ?_
      rintro e wa ⟨rfl, hb⟩
      have hBb : Below wr.heap.size wr wa := Below.on' (by go_grown) hb
      have hBa : Below w.heap.size w wa := Below.on' hB hBb
      have hOa := hO.below hBb
      have hza := hBa.size
      clear hb hBb hO hB c0 c1 c2 c3
      by_cases hq : inB x.m f u = true
      · have HQ := Lib.hid (HC.out.trans (if_pos hq))
        clear HC
        go_wp2_with (at_builtin; refine wpList_append_one _ rfl (.tmp 41) (.tmp 43) _ rfl i0 _ _ Tryz.underlying37 hi0 hz0 hz1 hz2 rfl (by omega) Ints.len Ints.one (k : Int) _ (hOa.alloc _) rfl rfl (new_cells _ _ _ _ rfl) (by unfold maxLen; omega) (by omega) (by simp; omega) ?_; intro A2 c2 wb L hL hO2 hb2)
        have hlen : L.length = r.length + 1 := by rw [hL.out]; simp
        have hlen2 : L.length ≤ k + 1 := by omega
        clear hlen
        have hBc : Below w.heap.size w wb := Below.trans (by go_grown) hb2
        clear hb2 hOa
        go_roundw
        case rel =>
          refine ⟨k + 1, A2, c2, L, by omega, by go_num, rfl, hlen2, hO2, Lib.hid ?_, hBc⟩
          rw [hL.out, List.append_assoc, ← HF.out, HQ.out]
          rfl
        case measure => simp [intOf]; omega
      · have HQ := Lib.hid (HC.out.trans (if_neg hq))
        have hq : inB x.m f u = false := by simpa using hq
        clear HC
        go_wp2
        go_roundw
        case rel =>
          refine ⟨k + 1, A, c, r, by omega, by go_num, rfl, by omega, hOa, Lib.hid ?_, hBa⟩
          rw [← HF.out, HQ.out]
        case measure => simp [intOf]; omega
    · have hd : l.drop k = [] := List.drop_of_length_le (by omega)
      have HE : Hid (r = betF f u l 0) := Lib.hid (by have := HF.out; rw [hd] at this; simpa [betF] using this)
      clear hd HF hi0 hz0 hz1 hz2
      go_wp2
      go_ret2
      exact RS2.own (HR.out.1.trans HE.out.symm) rfl HR.out.2 Ints.len hO hB
end Go.Proofs.YtmdmcjhodhphgaaGreatDoor

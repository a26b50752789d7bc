/- The reference's small drawing functions over messages: what they return, and that only the cursor changes. Conditions: a valid cursor, fewer than 2^39 steps. -/
import Derived.Test.YtacjdapfbmdddaaDrwB
import Derived.Test.YtacjdapfbmdddaaMsg
namespace Go.Proofs.Ytacjdapfbmdddaa
open Go.RowKit

set_option maxHeartbeats 4000000 in
theorem crewName_any (pb : Nat) (A : Option Addr) (c : Nat) (l : List Int) (N : Nat) (w : World) (hC : Cur pb A c l N w) (hN : N ≤ 900000000000) :
    Calls Try.prog 22 #[.pointer (some ⟨pb, 0, none⟩)] w (CS pb A c l (N + 4) 7 w) := by
  have hpb := hC.lt
  have hF := Fr.refl pb (pb + 1) w
  go_enter Try.func22, Try.ntmps22
  go_wp2_with fail
  refine (of_lit pb A c l (N) [⟨#[97]⟩, ⟨#[]⟩, ⟨#[49]⟩, ⟨#[115, 101, 118, 101, 110, 120, 120]⟩] 4 rfl 7 (List.forall_mem_cons.2 ⟨(by decide), (List.forall_mem_cons.2 ⟨(by decide), (List.forall_mem_cons.2 ⟨(by decide), (List.forall_mem_cons.2 ⟨(by decide), (fun _ h => nomatch h)⟩)⟩)⟩)⟩) _ _ _ _ (by simp) rfl hC (by omega) (by simp) (by simp)).mono ?_
  rintro e w1 ⟨s1, hs1, rfl, hC1, hFn⟩
  replace hF := hF.trans hFn
  clear hFn
  have hl1 := hC1.lt
  go_wp2_with fail
  refine (of_lit pb A c l (N + 2) [⟨#[97]⟩, ⟨#[97]⟩, ⟨#[98]⟩, ⟨#[98]⟩, ⟨#[99]⟩, ⟨#[100, 49]⟩, ⟨#[115, 105, 120, 115, 105, 120]⟩, s1] 8 rfl 7 (List.forall_mem_cons.2 ⟨(by decide), (List.forall_mem_cons.2 ⟨(by decide), (List.forall_mem_cons.2 ⟨(by decide), (List.forall_mem_cons.2 ⟨(by decide), (List.forall_mem_cons.2 ⟨(by decide), (List.forall_mem_cons.2 ⟨(by decide), (List.forall_mem_cons.2 ⟨(by decide), (List.forall_mem_cons.2 ⟨hs1, (fun _ h => nomatch h)⟩)⟩)⟩)⟩)⟩)⟩)⟩)⟩) _ _ _ _ (by simp) rfl hC1 (by omega) (by simp) (by simp)).mono ?_
  rintro e w2 ⟨s2, hs2, rfl, hC2, hFn⟩
  replace hF := hF.trans hFn
  clear hFn
  clear hC1
  have hl2 := hC2.lt
  go_wp2
  go_ret
  exact ⟨s2, hs2, rfl, hC2, hF⟩
set_option maxHeartbeats 4000000 in
theorem bodyOf_any (pb : Nat) (A : Option Addr) (c : Nat) (l : List Int) (N : Nat) (w : World) (hC : Cur pb A c l N w) (hN : N ≤ 900000000000) :
    Calls Try.prog 23 #[.pointer (some ⟨pb, 0, none⟩)] w (CS pb A c l (N + 4) 13 w) := by
  have hpb := hC.lt
  have hF := Fr.refl pb (pb + 1) w
  go_enter Try.func23, Try.ntmps23
  go_wp2_with fail
  refine (of_lit pb A c l (N) [⟨#[116, 119, 101, 108, 118, 101, 32, 99, 104, 97, 114, 115]⟩, ⟨#[116, 104, 105, 114, 116, 101, 101, 110, 32, 99, 104, 97, 114]⟩, ⟨#[32, 120]⟩, ⟨#[120, 32]⟩, ⟨#[]⟩, ⟨#[88]⟩] 6 rfl 13 (List.forall_mem_cons.2 ⟨(by decide), (List.forall_mem_cons.2 ⟨(by decide), (List.forall_mem_cons.2 ⟨(by decide), (List.forall_mem_cons.2 ⟨(by decide), (List.forall_mem_cons.2 ⟨(by decide), (List.forall_mem_cons.2 ⟨(by decide), (fun _ h => nomatch h)⟩)⟩)⟩)⟩)⟩)⟩) _ _ _ _ (by simp) rfl hC (by omega) (by simp) (by simp)).mono ?_
  rintro e w1 ⟨s1, hs1, rfl, hC1, hFn⟩
  replace hF := hF.trans hFn
  clear hFn
  have hl1 := hC1.lt
  go_wp2_with fail
  refine (of_lit pb A c l (N + 2) [⟨#[109, 111, 118, 105, 110, 103]⟩, ⟨#[116, 104, 101, 114, 101]⟩, ⟨#[102, 114, 101, 101]⟩, ⟨#[104, 111, 109, 101]⟩, ⟨#[119, 97, 116, 101, 114, 32, 111, 110]⟩, ⟨#[97, 98]⟩, s1] 7 rfl 13 (List.forall_mem_cons.2 ⟨(by decide), (List.forall_mem_cons.2 ⟨(by decide), (List.forall_mem_cons.2 ⟨(by decide), (List.forall_mem_cons.2 ⟨(by decide), (List.forall_mem_cons.2 ⟨(by decide), (List.forall_mem_cons.2 ⟨(by decide), (List.forall_mem_cons.2 ⟨hs1, (fun _ h => nomatch h)⟩)⟩)⟩)⟩)⟩)⟩)⟩) _ _ _ _ (by simp) rfl hC1 (by omega) (by simp) (by simp)).mono ?_
  rintro e w2 ⟨s2, hs2, rfl, hC2, hFn⟩
  replace hF := hF.trans hFn
  clear hFn
  clear hC1
  have hl2 := hC2.lt
  go_wp2
  go_ret
  exact ⟨s2, hs2, rfl, hC2, hF⟩
set_option maxHeartbeats 4000000 in
theorem message_any (pb : Nat) (A : Option Addr) (c : Nat) (l : List Int) (N : Nat) (w : World) (hC : Cur pb A c l N w) (hN : N ≤ 800000000000) :
    Calls Try.prog 46 #[.pointer (some ⟨pb, 0, none⟩)] w fun e w' => ∃ x : Msg, (x.f.size ≤ 7 ∧ x.b.size ≤ 13) ∧ e = .returned (.agg #[.string x.f, .int .i64 x.n, .string x.b]) ∧ Cur pb A c l (N + 12) w' ∧ Fr pb (pb + 1) w w' := by
  have hpb := hC.lt
  have hR := BN.new w #[.string ⟨#[]⟩, .int .i64 0, .string ⟨#[]⟩] 33 _ rfl
  have hF := (Fr.refl pb (pb + 1) w).alloc (.cells #[.string ⟨#[]⟩, .int .i64 0, .string ⟨#[]⟩] 33)
  have hC0 := hC.alloc (.cells #[.string ⟨#[]⟩, .int .i64 0, .string ⟨#[]⟩] 33)
  go_enter Try.func46, Try.ntmps46
  go_wp2_with fail
  refine (crewName_any pb A c l N _ hC0 (by omega)).mono ?_
  rintro e w1 ⟨s1, hs1, rfl, hC1, hFn⟩
  replace hR := hR.fr hFn (by simp) (by omega)
  replace hF := hF.trans hFn
  clear hFn
  clear hC0
  have hl1 := hC1.lt
  go_wp2_with fail
  refine (among_lit pb A c l (N + 4) [0, 1000, -1] 3 rfl _ _ _ _ (by simp) rfl hC1 (by omega) (by simp) (by simp)).mono ?_
  rintro e w2 ⟨k1, _, rfl, hC2, hFn⟩
  replace hR := hR.fr hFn (by simp) (by omega)
  replace hF := hF.trans hFn
  clear hFn
  clear hC1
  have hl2 := hC2.lt
  go_wp2_with fail
  refine (among_lit pb A c l (N + 6) [1, 2, 3, 999, k1] 5 rfl _ _ _ _ (by simp) rfl hC2 (by omega) (by simp) (by simp)).mono ?_
  rintro e w3 ⟨k2, _, rfl, hC3, hFn⟩
  replace hR := hR.fr hFn (by simp) (by omega)
  replace hF := hF.trans hFn
  clear hFn
  clear hC2
  have hl3 := hC3.lt
  go_wp2_with fail
  refine (bodyOf_any pb A c l (N + 8) _ hC3 (by omega)).mono ?_
  rintro e w4 ⟨s2, hs2, rfl, hC4, hFn⟩
  replace hR := hR.fr hFn (by simp) (by omega)
  replace hF := hF.trans hFn
  clear hFn
  clear hC3
  have hl4 := hC4.lt
  have hR' := (((hR.put (i := 0) rfl (.string s1)).put (i := 1) rfl (.int .i64 k2)).put (i := 2) rfl (.string s2))
  have hC' := (((hC4.set (p := ⟨w.heap.size, 0, none⟩) (by simp; omega) (.string s1)).set (p := ⟨w.heap.size, 1, none⟩) (by simp; omega) (.int .i64 k2)).set (p := ⟨w.heap.size, 2, none⟩) (by simp; omega) (.string s2))
  have hF' := (((hF.setNew (p := ⟨w.heap.size, 0, none⟩) (by simp) (.string s1)).setNew (p := ⟨w.heap.size, 1, none⟩) (by simp) (.int .i64 k2)).setNew (p := ⟨w.heap.size, 2, none⟩) (by simp) (.string s2))
  have r0 := (hR 0 _ rfl).1
  have g0 := (hR 0 _ rfl).2
  have x0 := (hR' 0 _ rfl).1
  have r1 := (hR 1 _ rfl).1
  have g1 := (hR 1 _ rfl).2
  have x1 := (hR' 1 _ rfl).1
  have r2 := (hR 2 _ rfl).1
  have g2 := (hR 2 _ rfl).2
  have x2 := (hR' 2 _ rfl).1
  go_wp2
  refine bodyPost_ret (by simp [results, Try.results46, go_sem, x0, x1, x2]; try rfl) rfl ?_
  exact ⟨⟨s1, k2, s2⟩, ⟨hs1, hs2⟩, rfl, hC', hF'⟩
end Go.Proofs.Ytacjdapfbmdddaa

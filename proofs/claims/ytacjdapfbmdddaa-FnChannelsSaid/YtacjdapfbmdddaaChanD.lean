/- A channel copied, by the program and by the reference. Condition: at most 2^20 messages in each list. -/
import Derived.Test.YtacjdapfbmdddaaChanC
import Derived.Test.YtacjdapfbmdddaaReg
namespace Go.Proofs.Ytacjdapfbmdddaa
open Go.RowKit

/-- One list is copied (p = 1) or not yet (p = 0). -/
def Stg (p : Nat) (L : List Msg) (A : Option Addr) (c : Nat) (L' : List Msg) (v : Value) : Prop := (p = 0 ∧ A = none ∧ c = 0 ∧ L' = []) ∨ (p = 1 ∧ L' = L ∧ v = .slice A L.length c)
set_option maxRecDepth 100000 in
set_option maxHeartbeats 8000000 in
theorem copyChannel_any (pb po : Nat) (As : Option Addr) (cs : Nat) (s : List Msg) (Ar : Option Addr) (cr : Nat) (r : List Msg) (Ah : Option Addr) (ch : Nat) (h : List Msg) (w : World) (hX : C3 pb po (.slice As s.length cs) (.slice Ar r.length cr) (.slice Ah h.length ch) w) (hls : s.length ≤ 1048576) (hSs : Msgs w 0 w.heap.size As s) (hlr : r.length ≤ 1048576) (hSr : Msgs w 0 w.heap.size Ar r) (hlh : h.length ≤ 1048576) (hSh : Msgs w 0 w.heap.size Ah h) :
    Calls Try.prog 38 #[.pointer (some ⟨pb, po, none⟩)] w (RC w s r h) := by
  have hRB := B3.new w (.slice none 0 0) (.slice none 0 0) (.slice none 0 0) 26 _ rfl
  have hX1 := hX.alloc (.cells #[.slice none 0 0, .slice none 0 0, .slice none 0 0] 26)
  have hB0 : Below w.heap.size w (w.alloc (.cells #[.slice none 0 0, .slice none 0 0, .slice none 0 0] 26)) := by go_grown
  have hpb := hX.lt
  go_enter Try.func38, Try.ntmps38
  go_upto_region 1 with fail
  refine wp_region_held_drew (S := (fun w' => (w'.cell? ⟨pb, po, none⟩ = some (.slice As s.length cs) ∧ w'.cell? ⟨pb, po + 1, none⟩ = some (.slice Ar r.length cr) ∧ w'.cell? ⟨pb, po + 2, none⟩ = some (.slice Ah h.length ch)) ∧ (∃ u0 u1 u2, B3 w.heap.size u0 u1 u2 w') ∧ Below w.heap.size w w')) (by kernel_rfl) ⟨⟨hX1.drew.c0, hX1.drew.c1, hX1.drew.c2⟩, ⟨_, _, _, hRB.drew⟩, hB0.drew⟩ (fun hHeld => ?_)
  have hO0 : OwnC (w.alloc (.cells #[.slice none 0 0, .slice none 0 0, .slice none 0 0] 26)).drew (w.heap.size + 1) none 0 [] none 0 [] none 0 [] := ⟨Own.nil_, Own.nil_, Own.nil_, Dis.none_l, Dis.none_l, Dis.none_l⟩
  generalize (w.alloc (.cells #[.slice none 0 0, .slice none 0 0, .slice none 0 0] 26)).drew = W0 at hHeld hO0 ⊢
  clear hRB hX1 hB0
  change wpAnyH _ _ _ _ _ 17 #[false, false, false, false, false, false, false, false, false, false, false, false, false, false, false, false, false] _ _
  refine wpAnyH_takeL (i := 0) (v := .pointer (some ⟨pb, po, none⟩)) rfl (by kernel_rfl) (by kernel_rfl) (by kernel_rfl) (fun _ _ _ h => h) (Or.inl ⟨by rfl, fun w' hSw => by obtain ⟨⟨z0, z1, z2⟩, _⟩ := hSw; go_simp⟩) (by assumption) ?_
  simp only [Act.put, List.setIfInBounds_toArray, List.set_cons_zero, List.set_cons_succ]
  refine wpAnyH_takeL (i := 1) (v := .pointer (some ⟨pb, po, none⟩)) rfl (by kernel_rfl) (by kernel_rfl) (by kernel_rfl) (fun _ _ _ h => h) (Or.inl ⟨by rfl, fun w' hSw => by obtain ⟨⟨z0, z1, z2⟩, _⟩ := hSw; go_simp⟩) (by assumption) ?_
  simp only [Act.put, List.setIfInBounds_toArray, List.set_cons_zero, List.set_cons_succ]
  refine wpAnyH_takeL (i := 2) (v := .pointer (some ⟨pb, po, none⟩)) rfl (by kernel_rfl) (by kernel_rfl) (by kernel_rfl) (fun _ _ _ h => h) (Or.inl ⟨by rfl, fun w' hSw => by obtain ⟨⟨z0, z1, z2⟩, _⟩ := hSw; go_simp⟩) (by assumption) ?_
  simp only [Act.put, List.setIfInBounds_toArray, List.set_cons_zero, List.set_cons_succ]
  refine wpAnyH_takeL (i := 3) (v := .slice As s.length cs) rfl (by kernel_rfl) (by kernel_rfl) (by kernel_rfl) (fun _ _ _ h => h) (Or.inl ⟨by rfl, fun w' hSw => by obtain ⟨⟨z0, z1, z2⟩, _⟩ := hSw; go_simp⟩) (by assumption) ?_
  simp only [Act.put, List.setIfInBounds_toArray, List.set_cons_zero, List.set_cons_succ]
  refine wpAnyH_takeL (i := 5) (v := .pointer (some ⟨pb, po, none⟩)) rfl (by kernel_rfl) (by kernel_rfl) (by kernel_rfl) (fun _ _ _ h => h) (Or.inl ⟨by rfl, fun w' hSw => by obtain ⟨⟨z0, z1, z2⟩, _⟩ := hSw; go_simp⟩) (by assumption) ?_
  simp only [Act.put, List.setIfInBounds_toArray, List.set_cons_zero, List.set_cons_succ]
  refine wpAnyH_takeL (i := 6) (v := .pointer (some ⟨pb, po, none⟩)) rfl (by kernel_rfl) (by kernel_rfl) (by kernel_rfl) (fun _ _ _ h => h) (Or.inl ⟨by rfl, fun w' hSw => by obtain ⟨⟨z0, z1, z2⟩, _⟩ := hSw; go_simp⟩) (by assumption) ?_
  simp only [Act.put, List.setIfInBounds_toArray, List.set_cons_zero, List.set_cons_succ]
  refine wpAnyH_takeL (i := 7) (v := .pointer (some ⟨pb, po + 1, none⟩)) rfl (by kernel_rfl) (by kernel_rfl) (by kernel_rfl) (fun _ _ _ h => h) (Or.inl ⟨by rfl, fun w' hSw => by obtain ⟨⟨z0, z1, z2⟩, _⟩ := hSw; go_simp⟩) (by assumption) ?_
  simp only [Act.put, List.setIfInBounds_toArray, List.set_cons_zero, List.set_cons_succ]
  refine wpAnyH_takeL (i := 8) (v := .slice Ar r.length cr) rfl (by kernel_rfl) (by kernel_rfl) (by kernel_rfl) (fun _ _ _ h => h) (Or.inl ⟨by rfl, fun w' hSw => by obtain ⟨⟨z0, z1, z2⟩, _⟩ := hSw; go_simp⟩) (by assumption) ?_
  simp only [Act.put, List.setIfInBounds_toArray, List.set_cons_zero, List.set_cons_succ]
  refine wpAnyH_takeL (i := 10) (v := .pointer (some ⟨pb, po, none⟩)) rfl (by kernel_rfl) (by kernel_rfl) (by kernel_rfl) (fun _ _ _ h => h) (Or.inl ⟨by rfl, fun w' hSw => by obtain ⟨⟨z0, z1, z2⟩, _⟩ := hSw; go_simp⟩) (by assumption) ?_
  simp only [Act.put, List.setIfInBounds_toArray, List.set_cons_zero, List.set_cons_succ]
  refine wpAnyH_takeL (i := 11) (v := .pointer (some ⟨pb, po, none⟩)) rfl (by kernel_rfl) (by kernel_rfl) (by kernel_rfl) (fun _ _ _ h => h) (Or.inl ⟨by rfl, fun w' hSw => by obtain ⟨⟨z0, z1, z2⟩, _⟩ := hSw; go_simp⟩) (by assumption) ?_
  simp only [Act.put, List.setIfInBounds_toArray, List.set_cons_zero, List.set_cons_succ]
  refine wpAnyH_takeL (i := 12) (v := .pointer (some ⟨pb, po + 2, none⟩)) rfl (by kernel_rfl) (by kernel_rfl) (by kernel_rfl) (fun _ _ _ h => h) (Or.inl ⟨by rfl, fun w' hSw => by obtain ⟨⟨z0, z1, z2⟩, _⟩ := hSw; go_simp⟩) (by assumption) ?_
  simp only [Act.put, List.setIfInBounds_toArray, List.set_cons_zero, List.set_cons_succ]
  refine wpAnyH_takeL (i := 13) (v := .slice Ah h.length ch) rfl (by kernel_rfl) (by kernel_rfl) (by kernel_rfl) (fun _ _ _ h => h) (Or.inl ⟨by rfl, fun w' hSw => by obtain ⟨⟨z0, z1, z2⟩, _⟩ := hSw; go_simp⟩) (by assumption) ?_
  simp only [Act.put, List.setIfInBounds_toArray, List.set_cons_zero, List.set_cons_succ]
  refine wpAnyH_inv (m := 2) (I := fun n l a W => ∃ p q z A1 c1 L1 A2 c2 L2 A3 c3 L3 v1 v2 v3, n + p + q + z = 3 ∧ l = #[true, true, true, true, decide (1 ≤ p), true, true, true, true, decide (1 ≤ q), true, true, true, true, decide (1 ≤ z), false, false] ∧ a = ⟨#[.pointer (some ⟨pb, po, none⟩), undef, .pointer (some ⟨w.heap.size, 0, none⟩), .pointer (some ⟨pb, po, none⟩), .pointer (some ⟨pb, po, none⟩), .pointer (some ⟨pb, po, none⟩), .slice As s.length cs, v1, .pointer (some ⟨pb, po, none⟩), .pointer (some ⟨pb, po, none⟩), .pointer (some ⟨pb, po + 1, none⟩), .slice Ar r.length cr, v2, .pointer (some ⟨pb, po, none⟩), .pointer (some ⟨pb, po, none⟩), .pointer (some ⟨pb, po + 2, none⟩), .slice Ah h.length ch, v3, undef], []⟩ ∧ Stg p s A1 c1 L1 v1 ∧ Stg q r A2 c2 L2 v2 ∧ Stg z h A3 c3 L3 v3 ∧ OwnC W (w.heap.size + 1) A1 c1 L1 A2 c2 L2 A3 c3 L3 ∧ ((fun w' => (w'.cell? ⟨pb, po, none⟩ = some (.slice As s.length cs) ∧ w'.cell? ⟨pb, po + 1, none⟩ = some (.slice Ar r.length cr) ∧ w'.cell? ⟨pb, po + 2, none⟩ = some (.slice Ah h.length ch)) ∧ (∃ u0 u1 u2, B3 w.heap.size u0 u1 u2 w') ∧ Below w.heap.size w w')) W) ?_ ?_ 3 _ _ _ ⟨0, 0, 0, none, 0, [], none, 0, [], none, 0, [], undef, undef, undef, rfl, rfl, rfl, .inl ⟨rfl, rfl, rfl, rfl⟩, .inl ⟨rfl, rfl, rfl, rfl⟩, .inl ⟨rfl, rfl, rfl, rfl⟩, hO0, hHeld⟩
  · rintro n l a W ⟨p, q, z, A1, c1, L1, A2, c2, L2, A3, c3, L3, v1, v2, v3, hn, rfl, rfl, h1, h2, h3, hO, hHeld⟩
    refine ⟨?_, fun i o ho hi K hK => ?_⟩
    · rcases h1 with ⟨rfl, _⟩ | ⟨rfl, _⟩ <;> rcases h2 with ⟨rfl, _⟩ | ⟨rfl, _⟩ <;> rcases h3 with ⟨rfl, _⟩ | ⟨rfl, _⟩ <;> first | kernel_rfl | (exfalso; omega)
    · obtain ⟨hun, _⟩ := mem_ready.1 hi
      have hcont := List.contains_iff_mem.2 hi
      obtain ⟨⟨z0, z1, z2⟩, ⟨u0, u1, u2, hR⟩, hB⟩ := id hHeld
      have hRl := hR.lt
      have hi17 : i = 0 ∨ i = 1 ∨ i = 2 ∨ i = 3 ∨ i = 4 ∨ i = 5 ∨ i = 6 ∨ i = 7 ∨ i = 8 ∨ i = 9 ∨ i = 10 ∨ i = 11 ∨ i = 12 ∨ i = 13 ∨ i = 14 ∨ i = 15 ∨ i = 16 := by
        have := (List.getElem?_eq_some_iff.1 ho).1
        simp only [List.length_cons, List.length_nil] at this
        omega
      rcases hi17 with rfl | rfl | rfl | rfl | rfl | rfl | rfl | rfl | rfl | rfl | rfl | rfl | rfl | rfl | rfl | rfl | rfl
      · cases hun
      · cases hun
      · cases hun
      · cases hun
      · rcases h1 with ⟨rfl, rfl, rfl, rfl⟩ | ⟨rfl, _⟩
        rotate_left
        · cases hun
        obtain rfl := Option.some.inj ho
        clear ho hi hcont hun
        go_simp
        go_at_call 54
        refine (Msg.Clone_any As cs s _ hls (hSs.below hB).all).mono ?_
        rintro e V ⟨A, c, rfl, hOw, hb⟩
        go_simp
        have hS' : ((fun w' => (w'.cell? ⟨pb, po, none⟩ = some (.slice As s.length cs) ∧ w'.cell? ⟨pb, po + 1, none⟩ = some (.slice Ar r.length cr) ∧ w'.cell? ⟨pb, po + 2, none⟩ = some (.slice Ah h.length ch)) ∧ (∃ u0 u1 u2, B3 w.heap.size u0 u1 u2 w') ∧ Below w.heap.size w w')) V := ⟨⟨keep hb z0, keep hb z1, keep hb z2⟩, ⟨_, _, _, hR.below hb⟩, Below.on' hB hb⟩
        exact hK.out _ _ hS' ⟨1, q, z, A, c, s, A2, c2, L2, A3, c3, L3, _, v2, v3, by omega, rfl, rfl, .inr ⟨rfl, rfl, rfl⟩, h2, h3, hO.made1 hOw hb (by omega), hS'⟩
      · cases hun
      · cases hun
      · cases hun
      · cases hun
      · rcases h2 with ⟨rfl, rfl, rfl, rfl⟩ | ⟨rfl, _⟩
        rotate_left
        · cases hun
        obtain rfl := Option.some.inj ho
        clear ho hi hcont hun
        go_simp
        go_at_call 54
        refine (Msg.Clone_any Ar cr r _ hlr (hSr.below hB).all).mono ?_
        rintro e V ⟨A, c, rfl, hOw, hb⟩
        go_simp
        have hS' : ((fun w' => (w'.cell? ⟨pb, po, none⟩ = some (.slice As s.length cs) ∧ w'.cell? ⟨pb, po + 1, none⟩ = some (.slice Ar r.length cr) ∧ w'.cell? ⟨pb, po + 2, none⟩ = some (.slice Ah h.length ch)) ∧ (∃ u0 u1 u2, B3 w.heap.size u0 u1 u2 w') ∧ Below w.heap.size w w')) V := ⟨⟨keep hb z0, keep hb z1, keep hb z2⟩, ⟨_, _, _, hR.below hb⟩, Below.on' hB hb⟩
        exact hK.out _ _ hS' ⟨p, 1, z, A1, c1, L1, A, c, r, A3, c3, L3, v1, _, v3, by omega, rfl, rfl, h1, .inr ⟨rfl, rfl, rfl⟩, h3, hO.made2 hOw hb (by omega), hS'⟩
      · cases hun
      · cases hun
      · cases hun
      · cases hun
      · rcases h3 with ⟨rfl, rfl, rfl, rfl⟩ | ⟨rfl, _⟩
        rotate_left
        · cases hun
        obtain rfl := Option.some.inj ho
        clear ho hi hcont hun
        go_simp
        go_at_call 54
        refine (Msg.Clone_any Ah ch h _ hlh (hSh.below hB).all).mono ?_
        rintro e V ⟨A, c, rfl, hOw, hb⟩
        go_simp
        have hS' : ((fun w' => (w'.cell? ⟨pb, po, none⟩ = some (.slice As s.length cs) ∧ w'.cell? ⟨pb, po + 1, none⟩ = some (.slice Ar r.length cr) ∧ w'.cell? ⟨pb, po + 2, none⟩ = some (.slice Ah h.length ch)) ∧ (∃ u0 u1 u2, B3 w.heap.size u0 u1 u2 w') ∧ Below w.heap.size w w')) V := ⟨⟨keep hb z0, keep hb z1, keep hb z2⟩, ⟨_, _, _, hR.below hb⟩, Below.on' hB hb⟩
        exact hK.out _ _ hS' ⟨p, q, 1, A1, c1, L1, A2, c2, L2, A, c, h, v1, v2, _, by omega, rfl, rfl, h1, h2, .inr ⟨rfl, rfl, rfl⟩, hO.made3 hOw hb (by omega), hS'⟩
      · exfalso
        rcases h1 with ⟨rfl, _⟩ | ⟨rfl, _⟩ <;> rcases h2 with ⟨rfl, _⟩ | ⟨rfl, _⟩ <;> rcases h3 with ⟨rfl, _⟩ | ⟨rfl, _⟩ <;> first | omega | exact absurd (hcont.symm.trans (by kernel_rfl : _ = false)) (by decide)
      · exfalso
        rcases h1 with ⟨rfl, _⟩ | ⟨rfl, _⟩ <;> rcases h2 with ⟨rfl, _⟩ | ⟨rfl, _⟩ <;> rcases h3 with ⟨rfl, _⟩ | ⟨rfl, _⟩ <;> first | omega | exact absurd (hcont.symm.trans (by kernel_rfl : _ = false)) (by decide)
  · rintro l a W ⟨p, q, z, A1, c1, L1, A2, c2, L2, A3, c3, L3, v1, v2, v3, hn, rfl, rfl, h1, h2, h3, hO, hHeld⟩
    obtain ⟨rfl, rfl, rfl⟩ : p = 1 ∧ q = 1 ∧ z = 1 := by rcases h1 with ⟨rfl, _⟩ | ⟨rfl, _⟩ <;> rcases h2 with ⟨rfl, _⟩ | ⟨rfl, _⟩ <;> rcases h3 with ⟨rfl, _⟩ | ⟨rfl, _⟩ <;> omega
    rcases h1 with ⟨h, _⟩ | ⟨_, rfl, rfl⟩
    · cases h
    rcases h2 with ⟨h, _⟩ | ⟨_, rfl, rfl⟩
    · cases h
    rcases h3 with ⟨h, _⟩ | ⟨_, rfl, rfl⟩
    · cases h
    change wpAnyH _ _ _ _ _ _ #[true, true, true, true, true, true, true, true, true, true, true, true, true, true, true, false, false] _ _
    refine wpAnyH_takeL (i := 15) (v := .agg #[.slice A1 L1.length c1, .slice A2 L2.length c2, .slice A3 L3.length c3]) rfl (by kernel_rfl) (by kernel_rfl) (by kernel_rfl) (fun _ _ _ h => h) (Or.inl ⟨by rfl, fun w' hSw => by obtain ⟨⟨z0, z1, z2⟩, _⟩ := hSw; go_simp⟩) (by assumption) ?_
    simp only [Act.put, List.setIfInBounds_toArray, List.set_cons_zero, List.set_cons_succ]
    refine wpAnyH_ready (rs := [16]) (by kernel_rfl) (by simp) ?_
    refine AllReadyH.consL rfl (fun K hK => ?_) AllReadyH.nil
    obtain ⟨⟨z0, z1, z2⟩, ⟨u0, u1, u2, hR⟩, hB⟩ := id hHeld
    obtain ⟨k0, k1, k2, f0, f1, f2⟩ := id hR
    go_simp
    have hRl := hR.lt
    have hF : Fr (w.heap.size) (w.heap.size + 1) W (((W.setCell ⟨w.heap.size, 0, none⟩ (.slice A1 L1.length c1)).setCell ⟨w.heap.size, 1, none⟩ (.slice A2 L2.length c2)).setCell ⟨w.heap.size, 2, none⟩ (.slice A3 L3.length c3)) := (((Fr.refl _ _ _).setCell ⟨by simp, by simp⟩ _).setCell ⟨by simp, by simp⟩ _).setCell ⟨by simp, by simp⟩ _
    have hB' := hB.trans (hF.below (B := w.heap.size) (by omega) (by omega))
    have hO' := (hO.far hF (by omega)).lift (b0 := w.heap.size) (by omega)
    have hR' := ((hR.set0 (.slice A1 L1.length c1)).set1 (.slice A2 L2.length c2)).set2 (.slice A3 L3.length c3)
    refine hK.out _ _ ⟨⟨(unset (unset (unset z0 (by simp; omega)) (by simp; omega)) (by simp; omega)), (unset (unset (unset z1 (by simp; omega)) (by simp; omega)) (by simp; omega)), (unset (unset (unset z2 (by simp; omega)) (by simp; omega)) (by simp; omega))⟩, ⟨_, _, _, hR'⟩, hB'⟩ (fun _ => ?_)
    obtain ⟨x0, x1, x2, _, _, _⟩ := id hR'
    refine wpAnyH_done (by kernel_rfl) ?_ _
    go_wp2
    refine bodyPost_ret (by simp [results, Try.results38, go_sem, x0, x1, x2]; try rfl) rfl ?_
    exact ⟨A1, c1, A2, c2, A3, c3, rfl, hO', hB'⟩
/-- One list: no row yet (p = 0), an empty row (p = 1), copied (p = 2). -/
def Sta (p : Nat) (L : List Msg) (A : Option Addr) (c : Nat) (L' : List Msg) (u v : Value) : Prop := (p = 0 ∧ A = none ∧ c = 0 ∧ L' = []) ∨ (p = 1 ∧ L' = [] ∧ u = .slice A 0 c) ∨ (p = 2 ∧ L' = L ∧ v = .slice A L.length c)
set_option maxRecDepth 100000 in
set_option maxHeartbeats 8000000 in
theorem raOwn_any (As : Option Addr) (cs : Nat) (s : List Msg) (Ar : Option Addr) (cr : Nat) (r : List Msg) (Ah : Option Addr) (ch : Nat) (h : List Msg) (w : World) (hls : s.length ≤ 1048576) (hSs : Msgs w 0 w.heap.size As s) (hlr : r.length ≤ 1048576) (hSr : Msgs w 0 w.heap.size Ar r) (hlh : h.length ≤ 1048576) (hSh : Msgs w 0 w.heap.size Ah h) :
    Calls Try.prog 31 #[.agg #[.slice As s.length cs, .slice Ar r.length cr, .slice Ah h.length ch]] w (RC w s r h) := by
  obtain ⟨i0, hi0, hz0, hz1, hz2⟩ := info_parts Msg.info
  have e1 : (w.alloc (.cells #[.slice As s.length cs, .slice Ar r.length cr, .slice Ah h.length ch] 26)).heap.size = w.heap.size + 1 := by simp
  have hRB := B3.new (w.alloc (.cells #[.slice As s.length cs, .slice Ar r.length cr, .slice Ah h.length ch] 26)) (.slice none 0 0) (.slice none 0 0) (.slice none 0 0) 26 (w.heap.size + 1) e1.symm
  have hX1 := (B3.new w (.slice As s.length cs) (.slice Ar r.length cr) (.slice Ah h.length ch) 26 _ rfl).alloc (.cells #[.slice none 0 0, .slice none 0 0, .slice none 0 0] 26)
  have hB0 : Below w.heap.size w ((w.alloc (.cells #[.slice As s.length cs, .slice Ar r.length cr, .slice Ah h.length ch] 26)).alloc (.cells #[.slice none 0 0, .slice none 0 0, .slice none 0 0] 26)) := by go_grown
  go_enter Try.func31, Try.ntmps31
  go_upto_region 1 with fail
  refine wp_region_held_drew (S := (fun w' => (w'.cell? ⟨w.heap.size, 0, none⟩ = some (.slice As s.length cs) ∧ w'.cell? ⟨w.heap.size, 1, none⟩ = some (.slice Ar r.length cr) ∧ w'.cell? ⟨w.heap.size, 2, none⟩ = some (.slice Ah h.length ch)) ∧ (∃ u0 u1 u2, B3 (w.heap.size + 1) u0 u1 u2 w') ∧ Below w.heap.size w w')) (by kernel_rfl) ⟨⟨hX1.drew.c0, hX1.drew.c1, hX1.drew.c2⟩, ⟨_, _, _, hRB.drew⟩, hB0.drew⟩ (fun hHeld => ?_)
  have hO0 : OwnC ((w.alloc (.cells #[.slice As s.length cs, .slice Ar r.length cr, .slice Ah h.length ch] 26)).alloc (.cells #[.slice none 0 0, .slice none 0 0, .slice none 0 0] 26)).drew (w.heap.size + 2) none 0 [] none 0 [] none 0 [] := ⟨Own.nil_, Own.nil_, Own.nil_, Dis.none_l, Dis.none_l, Dis.none_l⟩
  generalize ((w.alloc (.cells #[.slice As s.length cs, .slice Ar r.length cr, .slice Ah h.length ch] 26)).alloc (.cells #[.slice none 0 0, .slice none 0 0, .slice none 0 0] 26)).drew = W0 at hHeld hO0 ⊢
  clear hRB hX1 hB0
  change wpAnyH _ _ _ _ _ 14 #[false, false, false, false, false, false, false, false, false, false, false, false, false, false] _ _
  refine wpAnyH_takeL (i := 1) (v := .pointer (some ⟨w.heap.size, 0, none⟩)) rfl (by kernel_rfl) (by kernel_rfl) (by kernel_rfl) (fun _ _ _ h => h) (Or.inl ⟨by rfl, fun w' hSw => by obtain ⟨⟨z0, z1, z2⟩, _⟩ := hSw; go_simp⟩) (by assumption) ?_
  simp only [Act.put, List.setIfInBounds_toArray, List.set_cons_zero, List.set_cons_succ]
  refine wpAnyH_takeL (i := 2) (v := .slice As s.length cs) rfl (by kernel_rfl) (by kernel_rfl) (by kernel_rfl) (fun _ _ _ h => h) (Or.inl ⟨by rfl, fun w' hSw => by obtain ⟨⟨z0, z1, z2⟩, _⟩ := hSw; go_simp⟩) (by assumption) ?_
  simp only [Act.put, List.setIfInBounds_toArray, List.set_cons_zero, List.set_cons_succ]
  refine wpAnyH_takeL (i := 5) (v := .pointer (some ⟨w.heap.size, 1, none⟩)) rfl (by kernel_rfl) (by kernel_rfl) (by kernel_rfl) (fun _ _ _ h => h) (Or.inl ⟨by rfl, fun w' hSw => by obtain ⟨⟨z0, z1, z2⟩, _⟩ := hSw; go_simp⟩) (by assumption) ?_
  simp only [Act.put, List.setIfInBounds_toArray, List.set_cons_zero, List.set_cons_succ]
  refine wpAnyH_takeL (i := 6) (v := .slice Ar r.length cr) rfl (by kernel_rfl) (by kernel_rfl) (by kernel_rfl) (fun _ _ _ h => h) (Or.inl ⟨by rfl, fun w' hSw => by obtain ⟨⟨z0, z1, z2⟩, _⟩ := hSw; go_simp⟩) (by assumption) ?_
  simp only [Act.put, List.setIfInBounds_toArray, List.set_cons_zero, List.set_cons_succ]
  refine wpAnyH_takeL (i := 9) (v := .pointer (some ⟨w.heap.size, 2, none⟩)) rfl (by kernel_rfl) (by kernel_rfl) (by kernel_rfl) (fun _ _ _ h => h) (Or.inl ⟨by rfl, fun w' hSw => by obtain ⟨⟨z0, z1, z2⟩, _⟩ := hSw; go_simp⟩) (by assumption) ?_
  simp only [Act.put, List.setIfInBounds_toArray, List.set_cons_zero, List.set_cons_succ]
  refine wpAnyH_takeL (i := 10) (v := .slice Ah h.length ch) rfl (by kernel_rfl) (by kernel_rfl) (by kernel_rfl) (fun _ _ _ h => h) (Or.inl ⟨by rfl, fun w' hSw => by obtain ⟨⟨z0, z1, z2⟩, _⟩ := hSw; go_simp⟩) (by assumption) ?_
  simp only [Act.put, List.setIfInBounds_toArray, List.set_cons_zero, List.set_cons_succ]
  refine wpAnyH_inv (m := 2) (I := fun n l a W => ∃ p q z A1 c1 L1 A2 c2 L2 A3 c3 L3 u1 v1 u2 v2 u3 v3, n + p + q + z = 6 ∧ l = #[decide (1 ≤ p), true, true, decide (2 ≤ p), decide (1 ≤ q), true, true, decide (2 ≤ q), decide (1 ≤ z), true, true, decide (2 ≤ z), false, false] ∧ a = ⟨#[.agg #[.slice As s.length cs, .slice Ar r.length cr, .slice Ah h.length ch], .pointer (some ⟨w.heap.size, 0, none⟩), .pointer (some ⟨(w.heap.size + 1), 0, none⟩), u1, .pointer (some ⟨w.heap.size, 0, none⟩), .slice As s.length cs, v1, u2, .pointer (some ⟨w.heap.size, 1, none⟩), .slice Ar r.length cr, v2, u3, .pointer (some ⟨w.heap.size, 2, none⟩), .slice Ah h.length ch, v3, undef], []⟩ ∧ Sta p s A1 c1 L1 u1 v1 ∧ Sta q r A2 c2 L2 u2 v2 ∧ Sta z h A3 c3 L3 u3 v3 ∧ OwnC W (w.heap.size + 2) A1 c1 L1 A2 c2 L2 A3 c3 L3 ∧ ((fun w' => (w'.cell? ⟨w.heap.size, 0, none⟩ = some (.slice As s.length cs) ∧ w'.cell? ⟨w.heap.size, 1, none⟩ = some (.slice Ar r.length cr) ∧ w'.cell? ⟨w.heap.size, 2, none⟩ = some (.slice Ah h.length ch)) ∧ (∃ u0 u1 u2, B3 (w.heap.size + 1) u0 u1 u2 w') ∧ Below w.heap.size w w')) W) ?_ ?_ 6 _ _ _ ⟨0, 0, 0, none, 0, [], none, 0, [], none, 0, [], undef, undef, undef, undef, undef, undef, rfl, rfl, rfl, .inl ⟨rfl, rfl, rfl, rfl⟩, .inl ⟨rfl, rfl, rfl, rfl⟩, .inl ⟨rfl, rfl, rfl, rfl⟩, hO0, hHeld⟩
  · rintro n l a W ⟨p, q, z, A1, c1, L1, A2, c2, L2, A3, c3, L3, u1, v1, u2, v2, u3, v3, hn, rfl, rfl, h1, h2, h3, hO, hHeld⟩
    refine ⟨?_, fun i o ho hi K hK => ?_⟩
    · rcases h1 with ⟨rfl, _⟩ | ⟨rfl, _⟩ | ⟨rfl, _⟩ <;> rcases h2 with ⟨rfl, _⟩ | ⟨rfl, _⟩ | ⟨rfl, _⟩ <;> rcases h3 with ⟨rfl, _⟩ | ⟨rfl, _⟩ | ⟨rfl, _⟩ <;> first | kernel_rfl | (exfalso; omega)
    · obtain ⟨hun, _⟩ := mem_ready.1 hi
      have hcont := List.contains_iff_mem.2 hi
      obtain ⟨⟨z0, z1, z2⟩, ⟨y0, y1, y2, hR⟩, hB⟩ := id hHeld
      have hRl := hR.lt
      have hi17 : i = 0 ∨ i = 1 ∨ i = 2 ∨ i = 3 ∨ i = 4 ∨ i = 5 ∨ i = 6 ∨ i = 7 ∨ i = 8 ∨ i = 9 ∨ i = 10 ∨ i = 11 ∨ i = 12 ∨ i = 13 := by
        have := (List.getElem?_eq_some_iff.1 ho).1
        simp only [List.length_cons, List.length_nil] at this
        omega
      rcases hi17 with rfl | rfl | rfl | rfl | rfl | rfl | rfl | rfl | rfl | rfl | rfl | rfl | rfl | rfl
      · rcases h1 with ⟨rfl, rfl, rfl, rfl⟩ | ⟨rfl, _⟩ | ⟨rfl, _⟩
        rotate_left
        · cases hun
        · cases hun
        obtain rfl := Option.some.inj ho
        clear ho hi hcont hun
        go_simp
        have hb : Below W.heap.size W (W.alloc (.cells #[] 33)) := (Below.refl _ _).alloc (Nat.le_refl _) _
        have hS' : ((fun w' => (w'.cell? ⟨w.heap.size, 0, none⟩ = some (.slice As s.length cs) ∧ w'.cell? ⟨w.heap.size, 1, none⟩ = some (.slice Ar r.length cr) ∧ w'.cell? ⟨w.heap.size, 2, none⟩ = some (.slice Ah h.length ch)) ∧ (∃ u0 u1 u2, B3 (w.heap.size + 1) u0 u1 u2 w') ∧ Below w.heap.size w w')) (W.alloc (.cells #[] 33)) := ⟨⟨keep hb z0, keep hb z1, keep hb z2⟩, ⟨_, _, _, hR.below hb⟩, Below.on' hB hb⟩
        exact hK.out _ _ hS' ⟨1, q, z, _, _, [], A2, c2, L2, A3, c3, L3, _, _, u2, v2, u3, v3, by omega, rfl, rfl, .inr (.inl ⟨rfl, rfl, rfl⟩), h2, h3, hO.made1 (Own.empty W (Nat.le_refl _)) hb (by omega), hS'⟩
      · cases hun
      · cases hun
      · rcases h1 with ⟨rfl, _⟩ | ⟨rfl, rfl, rfl⟩ | ⟨rfl, _⟩
        · exfalso
          rcases h2 with ⟨rfl, _⟩ | ⟨rfl, _⟩ | ⟨rfl, _⟩ <;> rcases h3 with ⟨rfl, _⟩ | ⟨rfl, _⟩ | ⟨rfl, _⟩ <;> exact absurd (hcont.symm.trans (by kernel_rfl : _ = false)) (by decide)
        rotate_left
        · cases hun
        obtain rfl := Option.some.inj ho
        clear ho hi hcont hun
        rw [if_pos (by rfl)]
        refine wp_append_all W (.tmp 3) (.tmp 5) _ rfl i0 _ _ Try.underlying24 hi0 hz0 hz1 hz2 rfl (by omega) Msg.len Msg.one hO.o1 (hSs.below hB) rfl rfl (by simp only [List.length_nil]; unfold maxLen; omega) (by simp only [List.length_nil]; omega) (by omega) ?_
        intro A c V hOw hb hk hd
        have hS' : ((fun w' => (w'.cell? ⟨w.heap.size, 0, none⟩ = some (.slice As s.length cs) ∧ w'.cell? ⟨w.heap.size, 1, none⟩ = some (.slice Ar r.length cr) ∧ w'.cell? ⟨w.heap.size, 2, none⟩ = some (.slice Ah h.length ch)) ∧ (∃ u0 u1 u2, B3 (w.heap.size + 1) u0 u1 u2 w') ∧ Below w.heap.size w w')) V := ⟨⟨(hb.cell (p := ⟨w.heap.size, 0, none⟩) (by simp)).trans z0, (hb.cell (p := ⟨w.heap.size, 1, none⟩) (by simp)).trans z1, (hb.cell (p := ⟨w.heap.size, 2, none⟩) (by simp)).trans z2⟩, ⟨_, _, _, hR.upto (by omega) hb⟩, hB.trans (hb.mono (by omega))⟩
        exact hK.out _ _ hS' ⟨2, q, z, A, c, [] ++ s, A2, c2, L2, A3, c3, L3, _, _, u2, v2, u3, v3, by omega, rfl, rfl, .inr (.inr ⟨rfl, List.nil_append _, rfl⟩), h2, h3, hO.push1 hOw hk hd, hS'⟩
      · rcases h2 with ⟨rfl, rfl, rfl, rfl⟩ | ⟨rfl, _⟩ | ⟨rfl, _⟩
        rotate_left
        · cases hun
        · cases hun
        obtain rfl := Option.some.inj ho
        clear ho hi hcont hun
        go_simp
        have hb : Below W.heap.size W (W.alloc (.cells #[] 33)) := (Below.refl _ _).alloc (Nat.le_refl _) _
        have hS' : ((fun w' => (w'.cell? ⟨w.heap.size, 0, none⟩ = some (.slice As s.length cs) ∧ w'.cell? ⟨w.heap.size, 1, none⟩ = some (.slice Ar r.length cr) ∧ w'.cell? ⟨w.heap.size, 2, none⟩ = some (.slice Ah h.length ch)) ∧ (∃ u0 u1 u2, B3 (w.heap.size + 1) u0 u1 u2 w') ∧ Below w.heap.size w w')) (W.alloc (.cells #[] 33)) := ⟨⟨keep hb z0, keep hb z1, keep hb z2⟩, ⟨_, _, _, hR.below hb⟩, Below.on' hB hb⟩
        exact hK.out _ _ hS' ⟨p, 1, z, A1, c1, L1, _, _, [], A3, c3, L3, u1, v1, _, _, u3, v3, by omega, rfl, rfl, h1, .inr (.inl ⟨rfl, rfl, rfl⟩), h3, hO.made2 (Own.empty W (Nat.le_refl _)) hb (by omega), hS'⟩
      · cases hun
      · cases hun
      · rcases h2 with ⟨rfl, _⟩ | ⟨rfl, rfl, rfl⟩ | ⟨rfl, _⟩
        · exfalso
          rcases h1 with ⟨rfl, _⟩ | ⟨rfl, _⟩ | ⟨rfl, _⟩ <;> rcases h3 with ⟨rfl, _⟩ | ⟨rfl, _⟩ | ⟨rfl, _⟩ <;> exact absurd (hcont.symm.trans (by kernel_rfl : _ = false)) (by decide)
        rotate_left
        · cases hun
        obtain rfl := Option.some.inj ho
        clear ho hi hcont hun
        rw [if_pos (by rfl)]
        refine wp_append_all W (.tmp 7) (.tmp 9) _ rfl i0 _ _ Try.underlying24 hi0 hz0 hz1 hz2 rfl (by omega) Msg.len Msg.one hO.o2 (hSr.below hB) rfl rfl (by simp only [List.length_nil]; unfold maxLen; omega) (by simp only [List.length_nil]; omega) (by omega) ?_
        intro A c V hOw hb hk hd
        have hS' : ((fun w' => (w'.cell? ⟨w.heap.size, 0, none⟩ = some (.slice As s.length cs) ∧ w'.cell? ⟨w.heap.size, 1, none⟩ = some (.slice Ar r.length cr) ∧ w'.cell? ⟨w.heap.size, 2, none⟩ = some (.slice Ah h.length ch)) ∧ (∃ u0 u1 u2, B3 (w.heap.size + 1) u0 u1 u2 w') ∧ Below w.heap.size w w')) V := ⟨⟨(hb.cell (p := ⟨w.heap.size, 0, none⟩) (by simp)).trans z0, (hb.cell (p := ⟨w.heap.size, 1, none⟩) (by simp)).trans z1, (hb.cell (p := ⟨w.heap.size, 2, none⟩) (by simp)).trans z2⟩, ⟨_, _, _, hR.upto (by omega) hb⟩, hB.trans (hb.mono (by omega))⟩
        exact hK.out _ _ hS' ⟨p, 2, z, A1, c1, L1, A, c, [] ++ r, A3, c3, L3, u1, v1, _, _, u3, v3, by omega, rfl, rfl, h1, .inr (.inr ⟨rfl, List.nil_append _, rfl⟩), h3, hO.push2 hOw hk hd, hS'⟩
      · rcases h3 with ⟨rfl, rfl, rfl, rfl⟩ | ⟨rfl, _⟩ | ⟨rfl, _⟩
        rotate_left
        · cases hun
        · cases hun
        obtain rfl := Option.some.inj ho
        clear ho hi hcont hun
        go_simp
        have hb : Below W.heap.size W (W.alloc (.cells #[] 33)) := (Below.refl _ _).alloc (Nat.le_refl _) _
        have hS' : ((fun w' => (w'.cell? ⟨w.heap.size, 0, none⟩ = some (.slice As s.length cs) ∧ w'.cell? ⟨w.heap.size, 1, none⟩ = some (.slice Ar r.length cr) ∧ w'.cell? ⟨w.heap.size, 2, none⟩ = some (.slice Ah h.length ch)) ∧ (∃ u0 u1 u2, B3 (w.heap.size + 1) u0 u1 u2 w') ∧ Below w.heap.size w w')) (W.alloc (.cells #[] 33)) := ⟨⟨keep hb z0, keep hb z1, keep hb z2⟩, ⟨_, _, _, hR.below hb⟩, Below.on' hB hb⟩
        exact hK.out _ _ hS' ⟨p, q, 1, A1, c1, L1, A2, c2, L2, _, _, [], u1, v1, u2, v2, _, _, by omega, rfl, rfl, h1, h2, .inr (.inl ⟨rfl, rfl, rfl⟩), hO.made3 (Own.empty W (Nat.le_refl _)) hb (by omega), hS'⟩
      · cases hun
      · cases hun
      · rcases h3 with ⟨rfl, _⟩ | ⟨rfl, rfl, rfl⟩ | ⟨rfl, _⟩
        · exfalso
          rcases h1 with ⟨rfl, _⟩ | ⟨rfl, _⟩ | ⟨rfl, _⟩ <;> rcases h2 with ⟨rfl, _⟩ | ⟨rfl, _⟩ | ⟨rfl, _⟩ <;> exact absurd (hcont.symm.trans (by kernel_rfl : _ = false)) (by decide)
        rotate_left
        · cases hun
        obtain rfl := Option.some.inj ho
        clear ho hi hcont hun
        rw [if_pos (by rfl)]
        refine wp_append_all W (.tmp 11) (.tmp 13) _ rfl i0 _ _ Try.underlying24 hi0 hz0 hz1 hz2 rfl (by omega) Msg.len Msg.one hO.o3 (hSh.below hB) rfl rfl (by simp only [List.length_nil]; unfold maxLen; omega) (by simp only [List.length_nil]; omega) (by omega) ?_
        intro A c V hOw hb hk hd
        have hS' : ((fun w' => (w'.cell? ⟨w.heap.size, 0, none⟩ = some (.slice As s.length cs) ∧ w'.cell? ⟨w.heap.size, 1, none⟩ = some (.slice Ar r.length cr) ∧ w'.cell? ⟨w.heap.size, 2, none⟩ = some (.slice Ah h.length ch)) ∧ (∃ u0 u1 u2, B3 (w.heap.size + 1) u0 u1 u2 w') ∧ Below w.heap.size w w')) V := ⟨⟨(hb.cell (p := ⟨w.heap.size, 0, none⟩) (by simp)).trans z0, (hb.cell (p := ⟨w.heap.size, 1, none⟩) (by simp)).trans z1, (hb.cell (p := ⟨w.heap.size, 2, none⟩) (by simp)).trans z2⟩, ⟨_, _, _, hR.upto (by omega) hb⟩, hB.trans (hb.mono (by omega))⟩
        exact hK.out _ _ hS' ⟨p, q, 2, A1, c1, L1, A2, c2, L2, A, c, [] ++ h, u1, v1, u2, v2, _, _, by omega, rfl, rfl, h1, h2, .inr (.inr ⟨rfl, List.nil_append _, rfl⟩), hO.push3 hOw hk hd, hS'⟩
      · exfalso
        rcases h1 with ⟨rfl, _⟩ | ⟨rfl, _⟩ | ⟨rfl, _⟩ <;> rcases h2 with ⟨rfl, _⟩ | ⟨rfl, _⟩ | ⟨rfl, _⟩ <;> rcases h3 with ⟨rfl, _⟩ | ⟨rfl, _⟩ | ⟨rfl, _⟩ <;> first | omega | exact absurd (hcont.symm.trans (by kernel_rfl : _ = false)) (by decide)
      · exfalso
        rcases h1 with ⟨rfl, _⟩ | ⟨rfl, _⟩ | ⟨rfl, _⟩ <;> rcases h2 with ⟨rfl, _⟩ | ⟨rfl, _⟩ | ⟨rfl, _⟩ <;> rcases h3 with ⟨rfl, _⟩ | ⟨rfl, _⟩ | ⟨rfl, _⟩ <;> first | omega | exact absurd (hcont.symm.trans (by kernel_rfl : _ = false)) (by decide)
  · rintro l a W ⟨p, q, z, A1, c1, L1, A2, c2, L2, A3, c3, L3, u1, v1, u2, v2, u3, v3, hn, rfl, rfl, h1, h2, h3, hO, hHeld⟩
    obtain ⟨rfl, rfl, rfl⟩ : p = 2 ∧ q = 2 ∧ z = 2 := by rcases h1 with ⟨rfl, _⟩ | ⟨rfl, _⟩ | ⟨rfl, _⟩ <;> rcases h2 with ⟨rfl, _⟩ | ⟨rfl, _⟩ | ⟨rfl, _⟩ <;> rcases h3 with ⟨rfl, _⟩ | ⟨rfl, _⟩ | ⟨rfl, _⟩ <;> omega
    rcases h1 with ⟨h, _⟩ | ⟨h, _⟩ | ⟨_, rfl, rfl⟩
    · cases h
    · cases h
    rcases h2 with ⟨h, _⟩ | ⟨h, _⟩ | ⟨_, rfl, rfl⟩
    · cases h
    · cases h
    rcases h3 with ⟨h, _⟩ | ⟨h, _⟩ | ⟨_, rfl, rfl⟩
    · cases h
    · cases h
    change wpAnyH _ _ _ _ _ _ #[true, true, true, true, true, true, true, true, true, true, true, true, false, false] _ _
    refine wpAnyH_takeL (i := 12) (v := .agg #[.slice A1 L1.length c1, .slice A2 L2.length c2, .slice A3 L3.length c3]) rfl (by kernel_rfl) (by kernel_rfl) (by kernel_rfl) (fun _ _ _ h => h) (Or.inl ⟨by rfl, fun w' hSw => by obtain ⟨⟨z0, z1, z2⟩, _⟩ := hSw; go_simp⟩) (by assumption) ?_
    simp only [Act.put, List.setIfInBounds_toArray, List.set_cons_zero, List.set_cons_succ]
    refine wpAnyH_ready (rs := [13]) (by kernel_rfl) (by simp) ?_
    refine AllReadyH.consL rfl (fun K hK => ?_) AllReadyH.nil
    obtain ⟨⟨z0, z1, z2⟩, ⟨y0, y1, y2, hR⟩, hB⟩ := id hHeld
    obtain ⟨k0, k1, k2, f0, f1, f2⟩ := id hR
    go_simp
    have hRl := hR.lt
    have hF : Fr ((w.heap.size + 1)) ((w.heap.size + 1) + 1) W (((W.setCell ⟨(w.heap.size + 1), 0, none⟩ (.slice A1 L1.length c1)).setCell ⟨(w.heap.size + 1), 1, none⟩ (.slice A2 L2.length c2)).setCell ⟨(w.heap.size + 1), 2, none⟩ (.slice A3 L3.length c3)) := (((Fr.refl _ _ _).setCell ⟨by simp, by simp⟩ _).setCell ⟨by simp, by simp⟩ _).setCell ⟨by simp, by simp⟩ _
    have hB' := hB.trans (hF.below (B := w.heap.size) (by omega) (by omega))
    have hO' := (hO.far hF (by omega)).lift (b0 := w.heap.size) (by omega)
    have hR' := ((hR.set0 (.slice A1 L1.length c1)).set1 (.slice A2 L2.length c2)).set2 (.slice A3 L3.length c3)
    refine hK.out _ _ ⟨⟨(unset (unset (unset z0 (by simp)) (by simp)) (by simp)), (unset (unset (unset z1 (by simp)) (by simp)) (by simp)), (unset (unset (unset z2 (by simp)) (by simp)) (by simp))⟩, ⟨_, _, _, hR'⟩, hB'⟩ (fun _ => ?_)
    obtain ⟨x0, x1, x2, _, _, _⟩ := id hR'
    refine wpAnyH_done (by kernel_rfl) ?_ _
    go_wp2
    refine bodyPost_ret (by simp [results, Try.results31, go_sem, x0, x1, x2]; try rfl) rfl ?_
    exact ⟨A1, c1, A2, c2, A3, c3, rfl, hO', hB'⟩
end Go.Proofs.Ytacjdapfbmdddaa

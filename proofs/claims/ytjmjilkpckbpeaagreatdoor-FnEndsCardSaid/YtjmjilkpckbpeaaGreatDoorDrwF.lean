/- Drawing a fleet: some appliances in new memory; only the cursor changes. Conditions: a valid cursor, fewer than 2^39 steps. -/
import Derived.Test.YtjmjilkpckbpeaaGreatDoorDrwA
namespace Go.Proofs.YtjmjilkpckbpeaaGreatDoor
open Go.RowKit

theorem Fr.more {lo hi B : Nat} {w W W' : World} (h : Fr lo hi w W) (k : Below B W W') (hB : w.heap.size ≤ B) : Fr lo hi w W' :=
  ⟨k.os.trans h.os, k.tape.trans h.tape, k.output.trans h.output, Nat.le_trans h.size k.size, fun b hb hd => (k.block b (by omega)).trans (h.block b hb hd)⟩
def lenOf : Value → Nat
  | .slice _ n _ => n
  | _ => 0
theorem small_snoc {m : Nat} {L : List App} {x : App} (h : ∀ y ∈ L, y.nm.size ≤ m) (hx : x.nm.size ≤ m) : ∀ y ∈ L ++ [x], y.nm.size ≤ m := fun y hy => by
  rcases List.mem_append.1 hy with h1 | h1
  · exact h y h1
  · rw [List.mem_singleton.1 h1]; exact hx
def nmsF : List ByteArray := [⟨#[100, 49]⟩, ⟨#[112, 49]⟩, ⟨#[112, 50]⟩, ⟨#[112, 51]⟩, ⟨#[114, 49]⟩, ⟨#[116, 49]⟩, ⟨#[116, 50]⟩]
theorem nmsF_small : ∀ s ∈ nmsF, s.size ≤ 7 := (List.forall_mem_cons.2 ⟨(by decide), (List.forall_mem_cons.2 ⟨(by decide), (List.forall_mem_cons.2 ⟨(by decide), (List.forall_mem_cons.2 ⟨(by decide), (List.forall_mem_cons.2 ⟨(by decide), (List.forall_mem_cons.2 ⟨(by decide), (List.forall_mem_cons.2 ⟨(by decide), (fun _ h => nomatch h)⟩)⟩)⟩)⟩)⟩)⟩)⟩)
theorem nmsF_len : nmsF.length = 7 := rfl
set_option maxRecDepth 10000 in
set_option maxHeartbeats 8000000 in
theorem fleet_any (pb : Nat) (A : Option Addr) (c : Nat) (l : List Int) (N : Nat) (nodes : Int) (w : World) (hC : Cur pb A c l N w) (hN : N ≤ 800000000000) (hn : nodes ≤ 9223372036854775807) :
    Calls Tryz.prog 142 #[.pointer (some ⟨pb, 0, none⟩), .int .i64 nodes] w (fun e w' => ∃ (B : Option Addr) (d : Nat) (L : List App), e = .returned (.slice B L.length d) ∧ L.length ≤ 12 ∧ (∀ y ∈ L, y.nm.size ≤ 7) ∧ Own App.cells 5 73 w' w.heap.size B d L ∧ Cur pb A c l (N + 300) w' ∧ Fr pb (pb + 1) w w') := by
  obtain ⟨i0, hi0, hv0, hv1, hv2⟩ := info_parts App.info
  have hpb := hC.lt
  have hC0 := hC.alloc (.cells #[.string ⟨#[100, 49]⟩, .string ⟨#[112, 49]⟩, .string ⟨#[112, 50]⟩, .string ⟨#[112, 51]⟩, .string ⟨#[114, 49]⟩, .string ⟨#[116, 49]⟩, .string ⟨#[116, 50]⟩] 9)
  have hF0 := (Fr.refl pb (pb + 1) w).alloc (.cells #[.string ⟨#[100, 49]⟩, .string ⟨#[112, 49]⟩, .string ⟨#[112, 50]⟩, .string ⟨#[112, 51]⟩, .string ⟨#[114, 49]⟩, .string ⟨#[116, 49]⟩, .string ⟨#[116, 50]⟩] 9)
  have hz0 : (w.alloc (.cells #[.string ⟨#[100, 49]⟩, .string ⟨#[112, 49]⟩, .string ⟨#[112, 50]⟩, .string ⟨#[112, 51]⟩, .string ⟨#[114, 49]⟩, .string ⟨#[116, 49]⟩, .string ⟨#[116, 50]⟩] 9)).heap.size = w.heap.size + 1 := by simp
  have hSt := strs_lit w nmsF (#[.string ⟨#[100, 49]⟩, .string ⟨#[112, 49]⟩, .string ⟨#[112, 50]⟩, .string ⟨#[112, 51]⟩, .string ⟨#[114, 49]⟩, .string ⟨#[116, 49]⟩, .string ⟨#[116, 50]⟩]) 9 _ rfl rfl
  rw [hz0] at hSt
  go_enter Tryz.func142, Tryz.ntmps142
  go_wp2_with fail
  go_loopw [5, 10] (fun o i wr => ∃ (k : Nat) (B : Option Addr) (d : Nat) (L : List App), k ≤ 7 ∧ i = .int .i64 k ∧ o = .slice B L.length d ∧ L.length ≤ k ∧ (∀ y ∈ L, y.nm.size ≤ 7) ∧ Own App.cells 5 73 wr (w.heap.size + 1) B d L ∧ Cur pb A c l (N + 14 * k) wr ∧ Fr pb (pb + 1) w wr ∧ Strs wr w.heap.size (w.heap.size + 1) (some ⟨w.heap.size, 0, none⟩) nmsF ∧ w.heap.size + 1 ≤ wr.heap.size) (fun _ i _ => 7 - (intOf i).toNat)
  case atStart => exact ⟨0, none, 0, [], Nat.zero_le _, rfl, rfl, Nat.le_refl _, (fun _ h => nomatch h), Own.nil_, hC0, hF0, hSt, by omega⟩
  case round =>
    clear hSt hC0 hF0 hz0
    obtain ⟨k, B, d, L, hk, rfl, rfl, hL, hm, hO, hC1, hF, hSt, hz⟩ := hrel
    by_cases hlt : k < 7
    · obtain ⟨s, hs, hsm⟩ := get_lt (l := nmsF) (i := k) (by rw [nmsF_len]; exact hlt)
      have hs7 := nmsF_small s hsm
      obtain ⟨yb, yo, e1, _, _, _, c0, _⟩ := Strs.at1 hSt hs
      injection e1 with e1
      injection e1 with e1 e2
      subst e1 e2
      rw [Nat.zero_add] at c0
      have hlt' : (k : Int) < 7 := by omega
      clear hs hsm
      go_wp2_with fail
      refine (one_any pb A c l (N + 14 * k) 2 _ hC1 (by omega) (by omega)).mono ?_
      rintro e w1 ⟨_, rfl, ⟨b, rfl⟩, hC2, hFn⟩
      have hO1 := hO.frm hFn (by omega)
      have hF1 := hF.trans hFn
      have hz1 := hFn.size
      have hSt1 : Strs w1 w.heap.size (w.heap.size + 1) (some ⟨w.heap.size, 0, none⟩) nmsF := hSt.fr hFn (by omega)
      clear hFn hC1 hF hSt c0
      cases b with
      | false =>
        go_wp2
        go_roundw
        case rel => exact ⟨k + 1, B, d, L, by omega, by go_num, rfl, by omega, hm, hO1, hC2.more (by omega), hF1, hSt1, by omega⟩
        case measure => simp [intOf]; omega
      | true =>
        go_wp2_with fail
        refine (appliance_any pb A c l (N + 14 * k + 2) s nodes _ hC2 (by omega) hn).mono ?_
        rintro e w2 ⟨x, hx, rfl, hC3, hFn⟩
        replace hx := Lib.hid hx
        have hO2 := hO1.frm hFn (by omega)
        have hF2 := hF1.trans hFn
        have hz2 := hFn.size
        have hSt2 : Strs w2 w.heap.size (w.heap.size + 1) (some ⟨w.heap.size, 0, none⟩) nmsF := hSt1.fr hFn (by omega)
        clear hFn hC2 hO hO1 hF1 hSt1
        go_wp2_with (at_builtin; refine wpList_append_one _ rfl (.tmp 16) (.tmp 21) _ rfl i0 _ _ Tryz.underlying50 hi0 hv0 hv1 hv2 rfl (by omega) App.len App.one x _ (hO2.alloc _) rfl rfl (new_cells_at _ _ _ _ _ (by simp) rfl) (by unfold maxLen; first | omega | (simp; omega)) (by first | omega | (simp; omega)) (by simp; omega) ?_; intro B' d' V L' hL' hO' hbV)
        clear hO2
        have hbx : Below (w.heap.size + 1) w2 V := ((Below.refl (w.heap.size + 1) w2).alloc (by omega) _).trans hbV
        have hl2 : L'.length ≤ k + 1 := by rw [hL'.out, List.length_append]; simpa using hL
        have hm2 : ∀ y ∈ L', y.nm.size ≤ 7 := by rw [hL'.out]; exact small_snoc hm (by rw [hx.out]; exact hs7)
        have hC4 := hC3.upto (by omega) hbx
        have hF3 := hF2.more hbx (by omega)
        have hSt3 : Strs V w.heap.size (w.heap.size + 1) (some ⟨w.heap.size, 0, none⟩) nmsF := hSt2.keep (fun b _ h2 => hbx.block b h2) hbx.size
        have hz3 := hbx.size
        clear hbx hbV hC3 hF2 hSt2 hm hL'
        go_roundw
        case rel => exact ⟨k + 1, B', d', L', by omega, by go_num, rfl, hl2, hm2, hO', hC4.more (by omega), hF3, hSt3, by omega⟩
        case measure => simp [intOf]; omega
    · obtain rfl : k = 7 := by omega
      go_wp2_with fail
      refine (one_any pb A c l (N + 14 * 7) 16 _ hC1 (by omega) (by omega)).mono ?_
      rintro e w1 ⟨_, rfl, ⟨b, rfl⟩, hC2, hFn⟩
      have hO1 := hO.frm hFn (by omega)
      have hF1 := hF.trans hFn
      have hz1 := hFn.size
      clear hFn hC1 hF hSt hO
      cases b with
      | false =>
        clear hi0 hv0 hv1 hv2
        go_wp2
        go_ret
        exact ⟨B, d, L, rfl, by omega, hm, hO1.lift (by omega), hC2.more (by omega), hF1⟩
      | true =>
        clear hO1 hm hL
        go_wp2_with fail
        go_loopw [5] (fun o wr => ∃ (B : Option Addr) (d : Nat) (L : List App), o = .slice B L.length d ∧ L.length ≤ 12 ∧ (∀ y ∈ L, y.nm.size ≤ 7) ∧ Own App.cells 5 73 wr (w.heap.size + 1) B d L ∧ Cur pb A c l (N + 100 + 12 * L.length) wr ∧ Fr pb (pb + 1) w wr ∧ w.heap.size + 1 ≤ wr.heap.size) (fun o _ => 12 - lenOf o)
        case atStart => exact ⟨none, 0, [], rfl, by simp, (fun _ h => nomatch h), Own.nil_, hC2.more (by simp), hF1, by omega⟩
        case round =>
          clear hC2 hF1 hz1
          obtain ⟨B, d, L, rfl, hL, hm, hO, hC1, hF, hz⟩ := hrel
          by_cases hlt : L.length < 12
          · have hlt' : (L.length : Int) < 12 := by omega
            go_wp2_with fail
            refine (appliance_any pb A c l (N + 100 + 12 * L.length) _ nodes _ hC1 (by omega) hn).mono ?_
            rintro e w2 ⟨x, hx, rfl, hC3, hFn⟩
            have hxs : x.nm.size ≤ 7 := by
              rw [hx, ByteArray.size_append, ByteArray.size_extract]
              have : (⟨#[112]⟩ : ByteArray).size = 1 := rfl
              omega
            clear hx
            have hO2 := hO.frm hFn (by omega)
            have hF2 := hF.trans hFn
            have hz2 := hFn.size
            clear hFn hC1 hO hF
            go_wp2_with (at_builtin; refine wpList_append_one _ rfl (.tmp 29) (.tmp 40) _ rfl i0 _ _ Tryz.underlying50 hi0 hv0 hv1 hv2 rfl (by omega) App.len App.one x _ (hO2.alloc _) rfl rfl (new_cells_at _ _ _ _ _ (by simp) rfl) (by unfold maxLen; first | omega | (simp; omega)) (by first | omega | (simp; omega)) (by simp; omega) ?_; intro B' d' V L' hL' hO' hbV)
            clear hO2
            have hbx : Below (w.heap.size + 1) w2 V := ((Below.refl (w.heap.size + 1) w2).alloc (by omega) _).trans hbV
            have hl2 : L'.length = L.length + 1 := by rw [hL'.out, List.length_append]; rfl
            have hm2 : ∀ y ∈ L', y.nm.size ≤ 7 := by rw [hL'.out]; exact small_snoc hm hxs
            have hC4 := hC3.upto (by omega) hbx
            have hF3 := hF2.more hbx (by omega)
            have hz3 := hbx.size
            clear hbx hbV hC3 hF2 hm hL'
            go_roundw
            case rel => exact ⟨B', d', L', rfl, by omega, hm2, hO', hC4.more (by omega), hF3, by omega⟩
            case measure => simp [lenOf]; omega
          · have hlt' : ¬ (L.length : Int) < 12 := by omega
            clear hi0 hv0 hv1 hv2
            go_wp2
            go_ret
            exact ⟨B, d, L, rfl, hL, hm, hO.lift (by omega), hC1.more (by omega), hF⟩
set_option maxRecDepth 10000 in
set_option maxHeartbeats 8000000 in
theorem anyFleet_any (pb : Nat) (A : Option Addr) (c : Nat) (l : List Int) (N : Nat) (nodes : Int) (w : World) (hC : Cur pb A c l N w) (hN : N ≤ 700000000000) (hn : nodes ≤ 9223372036854775807) :
    Calls Tryz.prog 116 #[.pointer (some ⟨pb, 0, none⟩), .int .i64 nodes] w (fun e w' => ∃ (B : Option Addr) (d : Nat) (L : List App), e = .returned (.slice B L.length d) ∧ L.length ≤ 13 ∧ (∀ y ∈ L, y.nm.size ≤ 7) ∧ Own App.cells 5 73 w' w.heap.size B d L ∧ Cur pb A c l (N + 320) w' ∧ Fr pb (pb + 1) w w') := by
  obtain ⟨i0, hi0, hv0, hv1, hv2⟩ := info_parts App.info
  have hpb := hC.lt
  go_enter Tryz.func116, Tryz.ntmps116
  go_wp2_with fail
  refine (fleet_any pb A c l N nodes _ hC (by omega) hn).mono ?_
  rintro e w1 ⟨B, d, L, rfl, hL, hm, hO, hC1, hF1⟩
  have hz1 := hF1.size
  clear hC
  go_wp2_with fail
  refine (pick_any pb A c l (N + 300) 30 _ hC1 (by omega) (by omega)).mono ?_
  rintro e w2 ⟨_, rfl, ⟨k, rfl, _⟩, hC2, hFn⟩
  have hO2 := hO.frm hFn (by omega)
  have hF2 := hF1.trans hFn
  have hz2 := hFn.size
  clear hFn hC1 hF1 hO
  by_cases e0 : k = 0
  · have q0 : ((k : Int) == 0) = true := by simp [e0]
    clear e0
    go_wp2_with fail
    refine (of_lit pb A c l (N + 302) [⟨#[]⟩, ⟨#[49, 97]⟩, ⟨#[97, 49]⟩, ⟨#[115, 101, 118, 101, 110, 120, 120]⟩, ⟨#[122, 122]⟩, ⟨#[112, 45, 49]⟩] 6 rfl 7 (List.forall_mem_cons.2 ⟨(by decide), (List.forall_mem_cons.2 ⟨(by decide), (List.forall_mem_cons.2 ⟨(by decide), (List.forall_mem_cons.2 ⟨(by decide), (List.forall_mem_cons.2 ⟨(by decide), (List.forall_mem_cons.2 ⟨(by decide), (fun _ h => nomatch h)⟩)⟩)⟩)⟩)⟩)⟩) _ _ _ _ (by simp) rfl hC2 (by omega) (by simp) (by simp)).mono ?_
    rintro e w3 ⟨s, hs, rfl, hC3, hFn⟩
    have hO3 := hO2.frm hFn (by omega)
    have hF3 := hF2.trans hFn
    have hz3 := hFn.size
    clear hFn hC2 hF2 hO2
    go_wp2_with fail
    refine (appliance_any pb A c l (N + 304) s nodes _ hC3 (by omega) hn).mono ?_
    rintro e w4 ⟨x, hx, rfl, hC4, hFn⟩
    replace hx := Lib.hid hx
    have hO4 := hO3.frm hFn (by omega)
    have hF4 := hF3.trans hFn
    have hz4 := hFn.size
    clear hFn hC3 hF3 hO3
    go_wp2_with (at_builtin; refine wpList_append_one _ rfl (.tmp 13) (.tmp 20) _ rfl i0 _ _ Tryz.underlying50 hi0 hv0 hv1 hv2 rfl (by omega) App.len App.one x _ (hO4.alloc _) rfl rfl (new_cells_at _ _ _ _ _ (by simp) rfl) (by unfold maxLen; first | omega | (simp; omega)) (by first | omega | (simp; omega)) (by simp; omega) ?_; intro B' d' V L' hL' hO' hbV)
    clear hO4
    have hbx : Below w.heap.size w4 V := ((Below.refl w.heap.size w4).alloc (by omega) _).trans hbV
    have hl2 : L'.length ≤ 13 := by rw [hL'.out, List.length_append]; simpa using hL
    have hm2 : ∀ y ∈ L', y.nm.size ≤ 7 := by rw [hL'.out]; exact small_snoc hm (by rw [hx.out]; exact hs)
    have hC5 := hC4.upto (by omega) hbx
    have hF5 := hF4.more hbx (by omega)
    clear hbx hbV hC4 hF4 hm hL' hi0 hv0 hv1 hv2
    go_wp2
    go_ret
    exact ⟨B', d', L', rfl, hl2, hm2, hO', hC5.more (by omega), hF5⟩
  have q0 : ((k : Int) == 0) = false := by simp; omega
  by_cases e1 : k = 1
  · have q1 : ((k : Int) == 1) = true := by simp [e1]
    clear e0 e1 hO2 hm hL
    go_wp2_with fail
    go_loopw [5] (fun o wr => ∃ (B : Option Addr) (d : Nat) (L : List App), o = .slice B L.length d ∧ L.length ≤ 13 ∧ (∀ y ∈ L, y.nm.size ≤ 7) ∧ Own App.cells 5 73 wr w.heap.size B d L ∧ Cur pb A c l (N + 302) wr ∧ Fr pb (pb + 1) w wr ∧ w.heap.size ≤ wr.heap.size) (fun o _ => 13 - lenOf o)
    case atStart => exact ⟨none, 0, [], rfl, by simp, (fun _ h => nomatch h), Own.nil_, hC2, hF2, by omega⟩
    case round =>
      clear hC2 hF2 hz1 hz2 q0 q1
      obtain ⟨B, d, L, rfl, hL, hm, hO, hC1, hF, hz⟩ := hrel
      by_cases hlt : L.length < 13
      · have hlt' : (L.length : Int) < 13 := by omega
        have hxs : ((⟨#[112]⟩ : ByteArray) ++ (⟨#[97, 98, 99, 100, 101, 102, 103, 104, 105, 106, 107, 108, 109]⟩ : ByteArray).extract L.length (L.length + 1)).size ≤ 7 := by
          rw [ByteArray.size_append, ByteArray.size_extract]
          have : (⟨#[112]⟩ : ByteArray).size = 1 := rfl
          omega
        go_wp2_with (at_builtin; refine wpList_append_one _ rfl (.tmp 27) (.tmp 36) _ rfl i0 _ _ Tryz.underlying50 hi0 hv0 hv1 hv2 rfl (by omega) App.len App.one (⟨_, 0, 0, 4, 0⟩ : App) _ (hO.alloc _) rfl rfl (new_cells_at _ _ _ _ _ (by simp) rfl) (by unfold maxLen; first | omega | (simp; omega)) (by first | omega | (simp; omega)) (by simp; omega) ?_; intro B' d' V L' hL' hO' hbV)
        clear hO
        have hbx : Below w.heap.size wr V := ((Below.refl w.heap.size wr).alloc (by omega) _).trans hbV
        have hl2 : L'.length = L.length + 1 := by rw [hL'.out, List.length_append]; rfl
        have hm2 : ∀ y ∈ L', y.nm.size ≤ 7 := by rw [hL'.out]; exact small_snoc hm hxs
        have hC4 := hC1.upto (by omega) hbx
        have hF3 := hF.more hbx (by omega)
        have hz3 := hbx.size
        clear hbx hbV hC1 hF hm hL' hxs
        go_roundw
        case rel => exact ⟨B', d', L', rfl, by omega, hm2, hO', hC4, hF3, by omega⟩
        case measure => simp [lenOf]; omega
      · have hlt' : ¬ (L.length : Int) < 13 := by omega
        clear hi0 hv0 hv1 hv2
        go_wp2
        go_ret
        exact ⟨B, d, L, rfl, hL, hm, hO, hC1.more (by omega), hF⟩
  have q1 : ((k : Int) == 1) = false := by simp; omega
  clear e0 e1 hi0 hv0 hv1 hv2
  go_wp2
  go_ret
  exact ⟨B, d, L, rfl, by omega, hm, hO2, hC2.more (by omega), hF2⟩
end Go.Proofs.YtjmjilkpckbpeaaGreatDoor

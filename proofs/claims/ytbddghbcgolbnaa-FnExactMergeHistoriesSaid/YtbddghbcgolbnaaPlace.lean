/- Places, active rooms and handovers in histories; histories split. Conditions: lists and texts of at most 2^20. -/
import Derived.Test.YtbddghbcgolbnaaGood
namespace Go.Proofs.Ytbddghbcgolbnaa
open Go.RowKit

theorem below_drewN {B : Nat} {w W : World} (h : Below B w W) (n : Nat) : Below B w (W.drewN n) := ⟨h.os, h.tape, h.output, h.size, h.block⟩
def plaOk (h : List Ent) (r n : Int) : Bool := histB h && roomB r && inB n 1 999
def plaP (r n : Int) (x : Ent) : Bool := decide (x.r = r) && decide (x.n = n)
def plaI (h : List Ent) (r n : Int) : Int := if plaOk h r n = true then max (idxF (plaP r n) h 0) 0 else 0
def plaB (h : List Ent) (r n : Int) : Bool := plaOk h r n && decide (0 ≤ idxF (plaP r n) h 0)
theorem idxF_ge (p : Ent → Bool) : ∀ (l : List Ent) (i : Nat), -1 ≤ idxF p l i ∧ idxF p l i ≤ i + l.length
  | [], i => by simp [idxF]
  | x :: l, i => by
    have := idxF_ge p l (i + 1)
    rw [idxF]
    split
    · simp only [List.length_cons]; omega
    · simp only [List.length_cons]; omega
def actF (m : Int) : List Ent → Int → Int
  | [], r => r
  | x :: l, r => actF m l (if x.m ≤ m then x.r else r)
theorem actF_step {m : Int} {l : List Ent} {k : Nat} {x : Ent} (hx : l[k]? = some x) (r : Int) : actF m (l.drop k) r = actF m (l.drop (k + 1)) (if x.m ≤ m then x.r else r) := by
  obtain ⟨h1, rfl⟩ := List.getElem?_eq_some_iff.1 hx
  rw [List.drop_eq_getElem_cons h1]
  rfl
def actOk (h : List Ent) (m : Int) : Bool := histB h && minB m
def actI (h : List Ent) (m : Int) : Int := if actOk h m = true then actF m h 0 else 0
def actB (h : List Ent) (m : Int) : Bool := actOk h m && decide (0 < actF m h 0)
def hoF : List Ent → Int
  | x :: y :: l => (if y.r = x.r then 0 else 1) + hoF (y :: l)
  | _ => 0
theorem hoF_step {l : List Ent} {k : Nat} {x y : Ent} (hx : l[k]? = some x) (hy : l[k + 1]? = some y) : hoF (l.drop k) = (if y.r = x.r then 0 else 1) + hoF (l.drop (k + 1)) := by
  obtain ⟨h1, rfl⟩ := List.getElem?_eq_some_iff.1 hx
  obtain ⟨h2, rfl⟩ := List.getElem?_eq_some_iff.1 hy
  rw [List.drop_eq_getElem_cons h1, List.drop_eq_getElem_cons h2]
  rfl
theorem hoF_last {l : List Ent} {k : Nat} (h : l.length ≤ k + 1) : hoF (l.drop k) = 0 := by
  have hd : (l.drop k).length ≤ 1 := by simp; omega
  cases hh : l.drop k with
  | nil => rfl
  | cons a r =>
    cases r with
    | nil => rfl
    | cons b r => rw [hh] at hd; simp at hd
def hoI (h : List Ent) : Int := if histB h = true then hoF h else 0
set_option maxRecDepth 100000 in
set_option maxHeartbeats 4000000 in
theorem Handovers_spec (Ah : Option Addr) (ch : Nat) (h : List Ent) (w : World) (hlh : h.length ≤ 1048576) (hmh : ∀ x ∈ h, x.t.size ≤ 1048576) (hSh : Ents w 0 w.heap.size Ah h) (hch : h.length ≤ ch) :
    Calls Try.prog 9 #[.slice Ah h.length ch] w (RV w (.tuple #[.int .i64 (hoI h), .bool (histB h)])) := by
  go_enter Try.func9, Try.ntmps9
  go_wp2_with fail
  refine (mgGood_any Ah ch h _ hlh hmh hSh hch).mono ?_
  rintro e w1 ⟨rfl, hb⟩
  have hb1 : Below w.heap.size w w1 := Below.on' (by go_grown) hb
  clear hb
  have hB1 : Below w.heap.size w w1 := hb1
  replace hSh := (hSh.below hb1).all
  by_cases g1 : histB h = true
  rotate_left
  · have g1 : histB h = false := by simpa using g1
    have HN : Hid (hoI h = 0) := Lib.hid (by simp [hoI, g1])
    go_wp2
    go_ret2
    exact RV.mk (by rw [HN.out, g1]; rfl) hB1
  have HY : Hid (hoI h = hoF h) := Lib.hid (by simp [hoI, g1])
  go_wp2_with fail
  go_loopw [4, 12] (fun s4 i wr => ∃ (k : Nat) (q : Int), k ≤ h.length ∧ i = .int .i64 k ∧ s4 = .int .i64 q ∧ 0 ≤ q ∧ q ≤ k ∧ Hid (q + hoF (h.drop (k - 1)) = hoF h) ∧ Below w1.heap.size w1 wr) (fun _ i _ => h.length - (intOf i).toNat)
  case atStart => exact ⟨0, 0, by omega, rfl, rfl, by omega, by omega, Lib.hid (by rw [show 0 - 1 = 0 from rfl, List.drop_zero]; omega), Below.refl _ _⟩
  case round =>
    obtain ⟨k, q, hk, rfl, rfl, hq0, hq1, HF, hB⟩ := hrel
    by_cases hlt : k < h.length
    · obtain ⟨y, hy, _⟩ := get_lt hlt
      obtain ⟨b, off, rfl, _, _, _, hf⟩ := (hSh.below hB).at_ hy
      have c0 : wr.cell? ⟨b, off + k * 4, none⟩ = some (.int .i64 y.r) := (hf 0 _ rfl).1
      have c1 : wr.cell? ⟨b, off + k * 4 + 1, none⟩ = some (.int .i64 y.n) := (hf 1 _ rfl).1
      have c2 : wr.cell? ⟨b, off + k * 4 + 2, none⟩ = some (.int .i64 y.m) := (hf 2 _ rfl).1
      have c3 : wr.cell? ⟨b, off + k * 4 + 3, none⟩ = some (.string y.t) := (hf 3 _ rfl).1
      clear hf
      by_cases hk0 : k = 0
      · subst hk0
        clear hy
        simp only [Nat.zero_mul, Nat.add_zero] at c0 c1 c2 c3
        go_wp2_with fail
        go_quiet (fail)
        clear c0 c1 c2 c3
        go_wp2
        go_roundw
        case rel => exact ⟨1, q, by omega, by go_num, rfl, by omega, by omega, HF, below_drewN (by go_grown) _⟩
        case measure => simp [intOf]; omega
      obtain ⟨m, rfl⟩ : ∃ m, k = m + 1 := ⟨k - 1, by omega⟩
      obtain ⟨x, hx, _⟩ := get_lt (l := h) (i := m) (by omega)
      have HC := Lib.hid (hoF_step hx hy)
      replace HF : Hid (q + hoF (h.drop m) = hoF h) := HF
      have d0 : wr.cell? ⟨b, off + m * 4, none⟩ = some (.int .i64 x.r) := by
        obtain ⟨b', off', e, _, _, _, hf⟩ := (hSh.below hB).at_ hx
        cases e
        exact (hf 0 _ rfl).1
      clear hx hy
      have hwm : IntKind.i64.wrap ((m : Int) + 1 - 1) = (m : Int) := by rw [IntWalk.i64_in _ (by omega)]; omega
      have hwm2 : IntKind.i64.wrap (m : Int) = (m : Int) := IntWalk.i64_in _ (by omega)
      have hw3 : ((m : Int) + 1).toNat = m + 1 := by omega
      have hm0 : (0 : Int) < (m : Int) + 1 := by omega
      have hm3 : (0 : Int) ≤ (m : Int) + 1 := by omega
      have hm1 : (m : Int) + 1 < (h.length : Int) := by omega
      have hm2 : (m : Int) < (h.length : Int) := by omega
      by_cases hq : y.r = x.r
      · have HQ : Hid (q + hoF (h.drop (m + 1)) = hoF h) := Lib.hid (by have := HC.out; rw [if_pos hq] at this; have := HF.out; omega)
        have e1 : (x.r != y.r) = false := by simp [hq]
        have e2 : (y.r != x.r) = false := by simp [hq]
        clear HC HF hq
        go_wp2_with fail
        generalize hW : wr.alloc (Obj.cells #[.int .i64 y.r, .int .i64 y.n, .int .i64 y.m, .string y.t] 40) = V
        have hBV : Below w1.heap.size w1 V := by rw [← hW]; go_grown
        have v0 : V.cell? ⟨wr.heap.size, 0, none⟩ = some (.int .i64 y.r) := by rw [← hW, World.cell?_alloc_at _ _ _ _ rfl]; rfl
        have v1 : V.cell? ⟨b, off + m * 4, none⟩ = some (.int .i64 x.r) := by rw [← hW]; exact lay _ d0
        clear hW
        have hcls : ∀ w', Below V.heap.size V w' → w'.cell? ⟨wr.heap.size, 0, none⟩ = some (.int .i64 y.r) ∧ w'.cell? ⟨b, off + m * 4, none⟩ = some (.int .i64 x.r) := fun w' h => ⟨keep h v0, keep h v1⟩
        clear v0 v1
        refine wp_region_quiet (C := fun w' => Below V.heap.size V w') (by kernel_rfl) (by kernel_rfl) ((Below.refl _ _).drew) ?_
        dsimp only [Array.toList]
        iterate 13
          with_reducible refine wpQuiet_step (fun K hK => ?_)
          go_simp
          first
            | (refine hK _ ?_; clear hK K)
            | (apply Exists.intro
               refine ⟨fun w' hw' => ?_, hK _ ?_⟩
               · obtain ⟨z0, z1⟩ := hcls w' hw'
                 go_simp
                 first
                   | rfl
               clear hK K)
        refine wpQuiet_nil ?_
        intro W2 hW2
        have hB2 : Below w1.heap.size w1 W2 := Below.on' hBV hW2
        clear hcls hW2 hBV
        clear e1 e2 hwm hwm2 hw3 d0 c0 c1 c2 c3
        go_wp2
        go_roundw
        case rel => exact ⟨m + 1 + 1, q, by omega, by go_num, rfl, by omega, by omega, HQ, hB2⟩
        case measure => simp [intOf]; omega
      · have HQ : Hid (q + 1 + hoF (h.drop (m + 1)) = hoF h) := Lib.hid (by have := HC.out; rw [if_neg hq] at this; have := HF.out; omega)
        have e1 : (x.r != y.r) = true := by simp; omega
        have e2 : (y.r != x.r) = true := by simp; omega
        clear HC HF hq
        go_wp2_with fail
        generalize hW : wr.alloc (Obj.cells #[.int .i64 y.r, .int .i64 y.n, .int .i64 y.m, .string y.t] 40) = V
        have hBV : Below w1.heap.size w1 V := by rw [← hW]; go_grown
        have v0 : V.cell? ⟨wr.heap.size, 0, none⟩ = some (.int .i64 y.r) := by rw [← hW, World.cell?_alloc_at _ _ _ _ rfl]; rfl
        have v1 : V.cell? ⟨b, off + m * 4, none⟩ = some (.int .i64 x.r) := by rw [← hW]; exact lay _ d0
        clear hW
        have hcls : ∀ w', Below V.heap.size V w' → w'.cell? ⟨wr.heap.size, 0, none⟩ = some (.int .i64 y.r) ∧ w'.cell? ⟨b, off + m * 4, none⟩ = some (.int .i64 x.r) := fun w' h => ⟨keep h v0, keep h v1⟩
        clear v0 v1
        refine wp_region_quiet (C := fun w' => Below V.heap.size V w') (by kernel_rfl) (by kernel_rfl) ((Below.refl _ _).drew) ?_
        dsimp only [Array.toList]
        iterate 13
          with_reducible refine wpQuiet_step (fun K hK => ?_)
          go_simp
          first
            | (refine hK _ ?_; clear hK K)
            | (apply Exists.intro
               refine ⟨fun w' hw' => ?_, hK _ ?_⟩
               · obtain ⟨z0, z1⟩ := hcls w' hw'
                 go_simp
                 first
                   | rfl
               clear hK K)
        refine wpQuiet_nil ?_
        intro W2 hW2
        have hB2 : Below w1.heap.size w1 W2 := Below.on' hBV hW2
        clear hcls hW2 hBV
        clear e1 e2 hwm hwm2 hw3 d0 c0 c1 c2 c3
        go_wp2
        go_roundw
        case rel => exact ⟨m + 1 + 1, q + 1, by omega, by go_num, rfl, by omega, by omega, HQ, hB2⟩
        case measure => simp [intOf]; omega
    · have HE : Hid (hoF h = q) := Lib.hid (by have := HF.out; rw [hoF_last (by omega)] at this; omega)
      clear HF
      go_wp2
      go_ret2
      exact RV.mk (by rw [HY.out, HE.out, g1]; rfl) (Below.on' hB1 hB)
set_option maxRecDepth 100000 in
set_option maxHeartbeats 4000000 in
theorem Handovers_impl (Ah : Option Addr) (ch : Nat) (h : List Ent) (w : World) (hlh : h.length ≤ 1048576) (hmh : ∀ x ∈ h, x.t.size ≤ 1048576) (hSh : Ents w 0 w.heap.size Ah h) (hch : h.length ≤ ch) :
    Calls Try.prog 11 #[.slice Ah h.length ch] w (RV w (.tuple #[.int .i64 (hoI h), .bool (histB h)])) := by
  go_enter Try.func11, Try.ntmps11
  go_wp2_with fail
  refine (isHistory_any Ah ch h _ hlh hmh hSh hch).mono ?_
  rintro e w1 ⟨rfl, hb⟩
  have hb1 : Below w.heap.size w w1 := Below.on' (by go_grown) hb
  clear hb
  have hB1 : Below w.heap.size w w1 := hb1
  replace hSh := (hSh.below hb1).all
  by_cases g1 : histB h = true
  rotate_left
  · have g1 : histB h = false := by simpa using g1
    have HN : Hid (hoI h = 0) := Lib.hid (by simp [hoI, g1])
    go_wp2
    go_ret2
    exact RV.mk (by rw [HN.out, g1]; rfl) hB1
  have HY : Hid (hoI h = hoF h) := Lib.hid (by simp [hoI, g1])
  go_wp2_with fail
  go_loopw [4, 5] (fun s4 i wr => ∃ (k : Nat) (q : Int), 1 ≤ k ∧ k ≤ h.length + 1 ∧ i = .int .i64 k ∧ s4 = .int .i64 q ∧ 0 ≤ q ∧ q ≤ k ∧ Hid (q + hoF (h.drop (k - 1)) = hoF h) ∧ Below w1.heap.size w1 wr) (fun _ i _ => h.length + 1 - (intOf i).toNat)
  case atStart => exact ⟨1, 0, by omega, by omega, rfl, rfl, by omega, by omega, Lib.hid (by rw [show 1 - 1 = 0 from rfl, List.drop_zero]; omega), Below.refl _ _⟩
  case round =>
    obtain ⟨k, q, hk1, hk, rfl, rfl, hq0, hq1, HF, hB⟩ := hrel
    by_cases hlt : k < h.length
    · obtain ⟨y, hy, _⟩ := get_lt hlt
      obtain ⟨b, off, rfl, _, _, _, hf⟩ := (hSh.below hB).at_ hy
      have c0 : wr.cell? ⟨b, off + k * 4, none⟩ = some (.int .i64 y.r) := (hf 0 _ rfl).1
      have c1 : wr.cell? ⟨b, off + k * 4 + 1, none⟩ = some (.int .i64 y.n) := (hf 1 _ rfl).1
      have c2 : wr.cell? ⟨b, off + k * 4 + 2, none⟩ = some (.int .i64 y.m) := (hf 2 _ rfl).1
      have c3 : wr.cell? ⟨b, off + k * 4 + 3, none⟩ = some (.string y.t) := (hf 3 _ rfl).1
      clear hf
      obtain ⟨m, rfl⟩ : ∃ m, k = m + 1 := ⟨k - 1, by omega⟩
      obtain ⟨x, hx, _⟩ := get_lt (l := h) (i := m) (by omega)
      have HC := Lib.hid (hoF_step hx hy)
      replace HF : Hid (q + hoF (h.drop m) = hoF h) := HF
      have d0 : wr.cell? ⟨b, off + m * 4, none⟩ = some (.int .i64 x.r) := by
        obtain ⟨b', off', e, _, _, _, hf⟩ := (hSh.below hB).at_ hx
        cases e
        exact (hf 0 _ rfl).1
      clear hx hy
      have hwm : IntKind.i64.wrap ((m : Int) + 1 - 1) = (m : Int) := by rw [IntWalk.i64_in _ (by omega)]; omega
      have hwm2 : IntKind.i64.wrap (m : Int) = (m : Int) := IntWalk.i64_in _ (by omega)
      have hw3 : ((m : Int) + 1).toNat = m + 1 := by omega
      have hm0 : (0 : Int) < (m : Int) + 1 := by omega
      have hm3 : (0 : Int) ≤ (m : Int) + 1 := by omega
      have hm1 : (m : Int) + 1 < (h.length : Int) := by omega
      have hm2 : (m : Int) < (h.length : Int) := by omega
      by_cases hq : y.r = x.r
      · have HQ : Hid (q + hoF (h.drop (m + 1)) = hoF h) := Lib.hid (by have := HC.out; rw [if_pos hq] at this; have := HF.out; omega)
        have e1 : (x.r != y.r) = false := by simp [hq]
        have e2 : (y.r != x.r) = false := by simp [hq]
        clear HC HF hq
        go_wp2_with fail
        have hBV := hB
        have v0 := c0
        have v1 := d0
        generalize wr = V at hBV v0 v1 ⊢
        have hcls : ∀ w', Below V.heap.size V w' → w'.cell? ⟨b, off + (m + 1) * 4, none⟩ = some (.int .i64 y.r) ∧ w'.cell? ⟨b, off + m * 4, none⟩ = some (.int .i64 x.r) := fun w' h => ⟨keep h v0, keep h v1⟩
        clear v0 v1
        refine wp_region_quiet (C := fun w' => Below V.heap.size V w') (by kernel_rfl) (by kernel_rfl) ((Below.refl _ _).drew) ?_
        dsimp only [Array.toList]
        iterate 12
          with_reducible refine wpQuiet_step (fun K hK => ?_)
          go_simp
          first
            | (refine hK _ ?_; clear hK K)
            | (apply Exists.intro
               refine ⟨fun w' hw' => ?_, hK _ ?_⟩
               · obtain ⟨z0, z1⟩ := hcls w' hw'
                 go_simp
                 first
                   | rfl
               clear hK K)
        refine wpQuiet_nil ?_
        intro W2 hW2
        have hB2 : Below w1.heap.size w1 W2 := Below.on' hBV hW2
        clear hcls hW2 hBV
        clear e1 e2 hwm hwm2 hw3 d0 c0 c1 c2 c3
        go_wp2
        go_roundw
        case rel => exact ⟨m + 1 + 1, q, by omega, by omega, by go_num, rfl, by omega, by omega, HQ, hB2⟩
        case measure => simp [intOf]; omega
      · have HQ : Hid (q + 1 + hoF (h.drop (m + 1)) = hoF h) := Lib.hid (by have := HC.out; rw [if_neg hq] at this; have := HF.out; omega)
        have e1 : (x.r != y.r) = true := by simp; omega
        have e2 : (y.r != x.r) = true := by simp; omega
        clear HC HF hq
        go_wp2_with fail
        have hBV := hB
        have v0 := c0
        have v1 := d0
        generalize wr = V at hBV v0 v1 ⊢
        have hcls : ∀ w', Below V.heap.size V w' → w'.cell? ⟨b, off + (m + 1) * 4, none⟩ = some (.int .i64 y.r) ∧ w'.cell? ⟨b, off + m * 4, none⟩ = some (.int .i64 x.r) := fun w' h => ⟨keep h v0, keep h v1⟩
        clear v0 v1
        refine wp_region_quiet (C := fun w' => Below V.heap.size V w') (by kernel_rfl) (by kernel_rfl) ((Below.refl _ _).drew) ?_
        dsimp only [Array.toList]
        iterate 12
          with_reducible refine wpQuiet_step (fun K hK => ?_)
          go_simp
          first
            | (refine hK _ ?_; clear hK K)
            | (apply Exists.intro
               refine ⟨fun w' hw' => ?_, hK _ ?_⟩
               · obtain ⟨z0, z1⟩ := hcls w' hw'
                 go_simp
                 first
                   | rfl
               clear hK K)
        refine wpQuiet_nil ?_
        intro W2 hW2
        have hB2 : Below w1.heap.size w1 W2 := Below.on' hBV hW2
        clear hcls hW2 hBV
        clear e1 e2 hwm hwm2 hw3 d0 c0 c1 c2 c3
        go_wp2
        go_roundw
        case rel => exact ⟨m + 1 + 1, q + 1, by omega, by omega, by go_num, rfl, by omega, by omega, HQ, hB2⟩
        case measure => simp [intOf]; omega
    · have HE : Hid (hoF h = q) := Lib.hid (by have := HF.out; rw [hoF_last (by omega)] at this; omega)
      clear HF
      go_wp2
      go_ret2
      exact RV.mk (by rw [HY.out, HE.out, g1]; rfl) (Below.on' hB1 hB)
/-- The call returned two slices in new memory, the second behind the first, and a bool. -/
def RS3 (w : World) (R R' : List Ent) (B : Bool) (e : Ending) (w' : World) : Prop :=
  ∃ A c A' c' mid, e = .returned (.tuple #[.slice A R.length c, .slice A' R'.length c', .bool B]) ∧ w.heap.size ≤ mid ∧ mid ≤ w'.heap.size ∧ Ents w' w.heap.size mid A R ∧ Ents w' mid w'.heap.size A' R' ∧ R.length ≤ c ∧ R'.length ≤ c' ∧ Below w.heap.size w w'
def RSS3 (w : World) (R R' : List Ent) (B : Bool) (e : Ending) (w' : World) : Prop :=
  ∃ A c A' c', e = .returned (.tuple #[.slice A R.length c, .slice A' R'.length c', .bool B]) ∧ Ents w' w.heap.size w'.heap.size A R ∧ Ents w' w.heap.size w'.heap.size A' R' ∧ R.length ≤ c ∧ R'.length ≤ c' ∧ Below w.heap.size w w'
def spl1 (h : List Ent) : List Ent := if histB h = true then of1 h else []
def spl2 (h : List Ent) : List Ent := if histB h = true then not1 h else []
theorem spl1_len (h : List Ent) : (spl1 h).length ≤ h.length := by
  unfold spl1
  split
  · exact of1_len h
  · exact Nat.zero_le _
theorem spl2_len (h : List Ent) : (spl2 h).length ≤ h.length := by
  unfold spl2
  split
  · exact not1_len h
  · exact Nat.zero_le _
theorem hist_of2 {h : List Ent} (hh : histB h = true) : of2 h = not1 h := by
  rw [← hist_eq] at hh
  unfold histI at hh
  simp only [Bool.and_eq_true, decide_eq_true_eq] at hh
  have hn := len_not1 h
  obtain ⟨h1, h2⟩ := len_of2 h
  exact (h2 (by omega)).1
set_option maxHeartbeats 1000000 in
theorem SplitHistory_spec (Ah : Option Addr) (ch : Nat) (h : List Ent) (w : World) (hlh : h.length ≤ 1048576) (hmh : ∀ x ∈ h, x.t.size ≤ 1048576) (hSh : Ents w 0 w.heap.size Ah h) (hch : h.length ≤ ch) :
    Calls Try.prog 13 #[.slice Ah h.length ch] w (RSS3 w (spl1 h) (spl2 h) (histB h)) := by
  go_enter Try.func13, Try.ntmps13
  go_wp2_with fail
  refine (mgGood_any Ah ch h _ hlh hmh hSh hch).mono ?_
  rintro e w1 ⟨rfl, hb⟩
  have hb1 : Below w.heap.size w w1 := Below.on' (by go_grown) hb
  clear hb
  have hB1 : Below w.heap.size w w1 := hb1
  replace hSh := (hSh.below hb1).all
  by_cases g1 : histB h = true
  rotate_left
  · have g1 : histB h = false := by simpa using g1
    have HN : Hid (spl1 h = [] ∧ spl2 h = []) := Lib.hid (by simp [spl1, spl2, g1])
    go_wp2
    go_ret3
    exact ⟨none, 0, none, 0, by rw [HN.out.1, HN.out.2, g1]; rfl, by rw [HN.out.1]; exact Sl.nil_, by rw [HN.out.2]; exact Sl.nil_, by rw [HN.out.1]; exact Nat.le_refl _, by rw [HN.out.2]; exact Nat.le_refl _, hB1⟩
  have HY : Hid (spl1 h = of1 h ∧ spl2 h = not1 h) := Lib.hid (by simp [spl1, spl2, g1])
  go_wp2_with fail
  refine (mgSplit_any Ah ch h _ hlh hSh).mono ?_
  rintro e w2 ⟨A1, c1, A2, c2, rfl, hT1, hT2, hc1, hc2, hb⟩
  have hb2 : Below w1.heap.size w1 w2 := Below.on' (by go_grown) hb
  clear hb
  have hB2 : Below w.heap.size w w2 := Below.on' hB1 hb2
  replace hSh := (hSh.below hb2).all
  have hz := hB1.size
  have hT1' := hT1.mono (lo' := w.heap.size) (by omega) (Nat.le_refl _) (Nat.le_refl _)
  have hT2' := hT2.mono (lo' := w.heap.size) (by omega) (Nat.le_refl _) (Nat.le_refl _)
  clear hT1 hT2
  go_wp2
  go_ret3
  exact ⟨A1, c1, A2, c2, by rw [HY.out.1, HY.out.2, g1]; rfl, by rw [HY.out.1]; exact hT1', by rw [HY.out.2]; exact hT2', by rw [HY.out.1]; exact hc1, by rw [HY.out.2]; exact hc2, hB2⟩
set_option maxHeartbeats 1000000 in
theorem SplitHistory_impl (Ah : Option Addr) (ch : Nat) (h : List Ent) (w : World) (hlh : h.length ≤ 1048576) (hmh : ∀ x ∈ h, x.t.size ≤ 1048576) (hSh : Ents w 0 w.heap.size Ah h) (hch : h.length ≤ ch) :
    Calls Try.prog 14 #[.slice Ah h.length ch] w (RS3 w (spl1 h) (spl2 h) (histB h)) := by
  go_enter Try.func14, Try.ntmps14
  go_wp2_with fail
  refine (isHistory_any Ah ch h _ hlh hmh hSh hch).mono ?_
  rintro e w1 ⟨rfl, hb⟩
  have hb1 : Below w.heap.size w w1 := Below.on' (by go_grown) hb
  clear hb
  have hB1 : Below w.heap.size w w1 := hb1
  replace hSh := (hSh.below hb1).all
  by_cases g1 : histB h = true
  rotate_left
  · have g1 : histB h = false := by simpa using g1
    have HN : Hid (spl1 h = [] ∧ spl2 h = []) := Lib.hid (by simp [spl1, spl2, g1])
    go_wp2
    go_ret3
    exact ⟨none, 0, none, 0, w.heap.size, by rw [HN.out.1, HN.out.2, g1]; rfl, Nat.le_refl _, hB1.size, by rw [HN.out.1]; exact Sl.nil_, by rw [HN.out.2]; exact Sl.nil_, by rw [HN.out.1]; exact Nat.le_refl _, by rw [HN.out.2]; exact Nat.le_refl _, hB1⟩
  have HY : Hid (spl1 h = ofR 1 h ∧ spl2 h = ofR 2 h) := Lib.hid (by have := hist_of2 g1; simp only [spl1, spl2, g1, if_true]; exact ⟨rfl, this.symm⟩)
  go_wp2_with fail
  refine (entriesOf_any Ah ch h 1 _ hlh hSh).mono ?_
  rintro e w2 ⟨A1, c1, rfl, hT1, hc1, hb⟩
  have hb2 : Below w1.heap.size w1 w2 := Below.on' (by go_grown) hb
  clear hb
  have hB2 : Below w.heap.size w w2 := Below.on' hB1 hb2
  replace hSh := (hSh.below hb2).all
  go_wp2_with fail
  refine (entriesOf_any Ah ch h 2 _ hlh hSh).mono ?_
  rintro e w3 ⟨A2, c2, rfl, hT2, hc2, hb⟩
  have hb3 : Below w2.heap.size w2 w3 := Below.on' (by go_grown) hb
  clear hb
  have hB3 : Below w.heap.size w w3 := Below.on' hB2 hb3
  replace hSh := (hSh.below hb3).all
  have hz := hB1.size
  have hz1 := hb2.size
  have hz2 := hb3.size
  have hT1' := (hT1.below hb3).mono (lo' := w.heap.size) (by omega) (Nat.le_refl _) hz2
  clear hT1
  go_wp2
  go_ret3
  exact ⟨A1, c1, A2, c2, w2.heap.size, by rw [HY.out.1, HY.out.2, g1]; rfl, by omega, hz2, by rw [HY.out.1]; exact hT1', by rw [HY.out.2]; exact hT2, by rw [HY.out.1]; exact hc1, by rw [HY.out.2]; exact hc2, hB3⟩
end Go.Proofs.Ytbddghbcgolbnaa

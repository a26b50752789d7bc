/- Which entries of one history another lacks. Conditions: lists and texts of at most 2^20. -/
import Derived.Test.YtbddghbcgolbnaaPlace
namespace Go.Proofs.Ytbddghbcgolbnaa
open Go.RowKit

theorem eqlE (x y : Ent) (w : World) : (binOp .eql 40 (.agg #[.int .i64 x.r, .int .i64 x.n, .int .i64 x.m, .string x.t]) (.agg #[.int .i64 y.r, .int .i64 y.n, .int .i64 y.m, .string y.t])).run Try.prog w = .ok (.bool (eqE x y)) w := by
  go_simp
  by_cases q0 : x.r = y.r <;> by_cases q1 : x.n = y.n <;> by_cases q2 : x.m = y.m <;> by_cases q3 : x.t.toList = y.t.toList <;> simp [eqE, q0, q1, q2, q3]
def memB (l : List Ent) (e : Ent) : Bool := l.any fun y => eqE y e
theorem memB_idx (l : List Ent) (e : Ent) : decide (0 ≤ idxF (fun y => eqE e y) l 0) = memB l e := by
  have H : ∀ (l : List Ent) (i : Nat), decide (0 ≤ idxF (fun y => eqE e y) l i) = memB l e := by
    intro l
    induction l with
    | nil => intro i; rfl
    | cons y l ih =>
      intro i
      by_cases h : eqE e y = true
      · have h' : eqE y e = true := by rw [eqE_comm]; exact h
        simp [idxF, h, memB, h']
      · have h' : eqE y e = false := by rw [eqE_comm]; simpa using h
        have hi := ih (i + 1)
        simp [idxF, h, memB, h'] at hi ⊢
        exact hi
  exact H l 0
def lackF (a b : List Ent) : List Ent := b.filter fun e => !memB a e
def lackOk (a b : List Ent) : Bool := histB a && histB b
def lackR (a b : List Ent) : List Ent := if lackOk a b = true then lackF a b else []
theorem lackR_len (a b : List Ent) : (lackR a b).length ≤ b.length := by
  unfold lackR lackF
  split
  · exact List.length_filter_le _ _
  · exact Nat.zero_le _
set_option maxRecDepth 100000 in
set_option maxHeartbeats 4000000 in
theorem IndexE_any (A : Option Addr) (c : Nat) (l : List Ent) (e : Ent) (w : World) (hl : l.length ≤ 1048576) (hS : Ents w 0 w.heap.size A l) :
    Calls Try.prog 48 #[.slice A l.length c, .agg #[.int .i64 e.r, .int .i64 e.n, .int .i64 e.m, .string e.t]] w (RV w (.int .i64 (idxF (fun y => eqE e y) l 0))) := by
  have hbox : ∀ W, Below (w.alloc (Obj.cells #[.int .i64 e.r, .int .i64 e.n, .int .i64 e.m, .string e.t] 40)).heap.size (w.alloc (Obj.cells #[.int .i64 e.r, .int .i64 e.n, .int .i64 e.m, .string e.t] 40)) W → W.cell? ⟨w.heap.size, 0, none⟩ = some (.int .i64 e.r) ∧ W.cell? ⟨w.heap.size, 1, none⟩ = some (.int .i64 e.n) ∧ W.cell? ⟨w.heap.size, 2, none⟩ = some (.int .i64 e.m) ∧ W.cell? ⟨w.heap.size, 3, none⟩ = some (.string e.t) := fun W hb =>
    have H := fun t u hu => keep hb (new_cells (E := Ent.cells) w 40 e _ rfl t u hu)
    ⟨H 0 _ rfl, H 1 _ rfl, H 2 _ rfl, H 3 _ rfl⟩
  have hS0 := (hS.alloc (Obj.cells #[.int .i64 e.r, .int .i64 e.n, .int .i64 e.m, .string e.t] 40)).all
  go_enter Try.func48, Try.ntmps48
  go_wp2_with fail
  generalize hV : w.alloc (Obj.cells #[.int .i64 e.r, .int .i64 e.n, .int .i64 e.m, .string e.t] 40) = V at hbox hS0 ⊢
  have hBV : Below w.heap.size w V := by rw [← hV]; go_grown
  clear hV hS
  go_loopw [8] (fun i wr => ∃ k : Nat, k ≤ l.length ∧ i = .int .i64 k ∧ Hid (idxF (fun y => eqE e y) (l.drop k) k = idxF (fun y => eqE e y) l 0) ∧ Below V.heap.size V wr) (fun i _ => l.length - (intOf i).toNat)
  case atStart => exact ⟨0, Nat.zero_le _, rfl, rfl, Below.refl _ _⟩
  case round =>
    obtain ⟨k, hk, rfl, HF, hB⟩ := hrel
    by_cases hlt : k < l.length
    · obtain ⟨x, hx, _⟩ := get_lt hlt
      have HC := Lib.hid (idxF_step (p := fun y => eqE e y) hx)
      obtain ⟨b, off, rfl, _, _, _, hf⟩ := (hS0.below hB).at_ hx
      have c0 : wr.cell? ⟨b, off + k * 4, none⟩ = some (.int .i64 x.r) := (hf 0 _ rfl).1
      have c1 : wr.cell? ⟨b, off + k * 4 + 1, none⟩ = some (.int .i64 x.n) := (hf 1 _ rfl).1
      have c2 : wr.cell? ⟨b, off + k * 4 + 2, none⟩ = some (.int .i64 x.m) := (hf 2 _ rfl).1
      have c3 : wr.cell? ⟨b, off + k * 4 + 3, none⟩ = some (.string x.t) := (hf 3 _ rfl).1
      clear hf hx
      have hkk : (k : Int) < l.length := by omega
      have hcls : ∀ w', Below wr.heap.size wr w' → w'.cell? ⟨b, off + k * 4, none⟩ = some (.int .i64 x.r) ∧ w'.cell? ⟨b, off + k * 4 + 1, none⟩ = some (.int .i64 x.n) ∧ w'.cell? ⟨b, off + k * 4 + 2, none⟩ = some (.int .i64 x.m) ∧ w'.cell? ⟨b, off + k * 4 + 3, none⟩ = some (.string x.t) ∧ w'.cell? ⟨w.heap.size, 0, none⟩ = some (.int .i64 e.r) ∧ w'.cell? ⟨w.heap.size, 1, none⟩ = some (.int .i64 e.n) ∧ w'.cell? ⟨w.heap.size, 2, none⟩ = some (.int .i64 e.m) ∧ w'.cell? ⟨w.heap.size, 3, none⟩ = some (.string e.t) :=
        fun w' h => ⟨keep h c0, keep h c1, keep h c2, keep h c3, hbox w' (Below.on' hB h)⟩
      clear c0 c1 c2 c3
      have heq := eqlE e x
      go_wp2_with fail
      refine wp_region_quiet (C := fun w' => Below wr.heap.size wr w') (by kernel_rfl) (by kernel_rfl) ((Below.refl _ _).drew) ?_
      dsimp only [Array.toList]
      iterate 6
        with_reducible refine wpQuiet_step (fun K hK => ?_)
        go_simp
        first
          | (refine hK _ ?_; clear hK K)
          | (apply Exists.intro
             refine ⟨fun w' hw' => ?_, hK _ ?_⟩
             · obtain ⟨z0, z1, z2, z3, z4, z5, z6, z7⟩ := hcls w' hw'
               have hqq := heq w'
               first
                 | (go_simp; rfl)
                 | (simp only [Sem.run] at hqq; exact hqq)
             clear hK K)
      refine wpQuiet_nil ?_
      intro W2 hW2
      have hB2 : Below V.heap.size V W2 := Below.on' hB hW2
      clear hcls hW2 hB heq
      by_cases hq : eqE e x = true
      · have HQ := Lib.hid (HC.out.trans (if_pos hq))
        clear HC
        rw [hq]
        go_wp2
        go_ret
        exact RV.mk (by rw [← HF.out, HQ.out]; rfl) (hBV.trans (hB2.mono hBV.size))
      · have HQ := Lib.hid (HC.out.trans (if_neg hq))
        have hq : eqE e x = false := by simpa using hq
        clear HC
        rw [hq]
        go_wp2
        go_roundw
        case rel => exact ⟨k + 1, by omega, by go_num, Lib.hid (HQ.out.symm.trans HF.out), hB2⟩
        case measure => simp [intOf]; omega
    · have hd : l.drop k = [] := List.drop_of_length_le (by omega)
      have HE : Hid ((-1 : Int) = idxF (fun y => eqE e y) l 0) := Lib.hid (by have := HF.out; rw [hd] at this; exact this)
      clear hd HF
      go_wp2
      go_ret
      exact RV.mk (by rw [← HE.out]; rfl) (hBV.trans (hB.mono hBV.size))
set_option maxHeartbeats 1000000 in
theorem ContainsE_any (A : Option Addr) (c : Nat) (l : List Ent) (e : Ent) (w : World) (hl : l.length ≤ 1048576) (hS : Ents w 0 w.heap.size A l) :
    Calls Try.prog 35 #[.slice A l.length c, .agg #[.int .i64 e.r, .int .i64 e.n, .int .i64 e.m, .string e.t]] w (RV w (.bool (memB l e))) := by
  have HM := Lib.hid (memB_idx l e)
  have hS0 := (hS.alloc (Obj.cells #[.int .i64 e.r, .int .i64 e.n, .int .i64 e.m, .string e.t] 40)).all
  go_enter Try.func35, Try.ntmps35
  go_wp2_with fail
  refine (IndexE_any A c l e _ hl hS0).mono ?_
  rintro e w1 ⟨rfl, hb⟩
  have hB : Below w.heap.size w w1 := Below.on' (by go_grown) hb
  go_wp2
  all_goals go_ret
  all_goals exact RV.mk (by rw [← HM.out]; first | rfl | (simp; done) | skip) hB
set_option maxRecDepth 100000 in
set_option maxHeartbeats 4000000 in
theorem mgHas_any (A : Option Addr) (c : Nat) (l : List Ent) (e : Ent) (w : World) (hl : l.length ≤ 1048576) (hS : Ents w 0 w.heap.size A l) :
    Calls Try.prog 31 #[.slice A l.length c, .agg #[.int .i64 e.r, .int .i64 e.n, .int .i64 e.m, .string e.t]] w (RV w (.bool (memB l e))) := by
  have hbox : ∀ W, Below (w.alloc (Obj.cells #[.int .i64 e.r, .int .i64 e.n, .int .i64 e.m, .string e.t] 40)).heap.size (w.alloc (Obj.cells #[.int .i64 e.r, .int .i64 e.n, .int .i64 e.m, .string e.t] 40)) W → W.cell? ⟨w.heap.size, 0, none⟩ = some (.int .i64 e.r) ∧ W.cell? ⟨w.heap.size, 1, none⟩ = some (.int .i64 e.n) ∧ W.cell? ⟨w.heap.size, 2, none⟩ = some (.int .i64 e.m) ∧ W.cell? ⟨w.heap.size, 3, none⟩ = some (.string e.t) := fun W hb =>
    have H := fun t u hu => keep hb (new_cells (E := Ent.cells) w 40 e _ rfl t u hu)
    ⟨H 0 _ rfl, H 1 _ rfl, H 2 _ rfl, H 3 _ rfl⟩
  have hS0 := (hS.alloc (Obj.cells #[.int .i64 e.r, .int .i64 e.n, .int .i64 e.m, .string e.t] 40)).all
  go_enter Try.func31, Try.ntmps31
  go_wp2_with fail
  generalize hV : w.alloc (Obj.cells #[.int .i64 e.r, .int .i64 e.n, .int .i64 e.m, .string e.t] 40) = V at hbox hS0 ⊢
  have hBV : Below w.heap.size w V := by rw [← hV]; go_grown
  clear hV hS
  go_loopw [9] (fun i wr => ∃ k : Nat, k ≤ l.length ∧ i = .int .i64 k ∧ Hid (memB (l.drop k) e = memB l e) ∧ Below V.heap.size V wr) (fun i _ => l.length - (intOf i).toNat)
  case atStart => exact ⟨0, Nat.zero_le _, rfl, rfl, Below.refl _ _⟩
  case round =>
    obtain ⟨k, hk, rfl, HF, hB⟩ := hrel
    by_cases hlt : k < l.length
    · obtain ⟨x, hx, _⟩ := get_lt hlt
      have HC : Hid (memB (l.drop k) e = (eqE x e || memB (l.drop (k + 1)) e)) := Lib.hid (by
        obtain ⟨h1, rfl⟩ := List.getElem?_eq_some_iff.1 hx
        rw [List.drop_eq_getElem_cons h1]; rfl)
      obtain ⟨b, off, rfl, _, _, _, hf⟩ := (hS0.below hB).at_ hx
      have c0 : wr.cell? ⟨b, off + k * 4, none⟩ = some (.int .i64 x.r) := (hf 0 _ rfl).1
      have c1 : wr.cell? ⟨b, off + k * 4 + 1, none⟩ = some (.int .i64 x.n) := (hf 1 _ rfl).1
      have c2 : wr.cell? ⟨b, off + k * 4 + 2, none⟩ = some (.int .i64 x.m) := (hf 2 _ rfl).1
      have c3 : wr.cell? ⟨b, off + k * 4 + 3, none⟩ = some (.string x.t) := (hf 3 _ rfl).1
      clear hf hx
      obtain ⟨d0, d1, d2, d3⟩ := hbox wr hB
      have e0 := lay (.cells #[.int .i64 x.r, .int .i64 x.n, .int .i64 x.m, .string x.t] 40) d0
      have e1 := lay (.cells #[.int .i64 x.r, .int .i64 x.n, .int .i64 x.m, .string x.t] 40) d1
      have e2 := lay (.cells #[.int .i64 x.r, .int .i64 x.n, .int .i64 x.m, .string x.t] 40) d2
      have e3 := lay (.cells #[.int .i64 x.r, .int .i64 x.n, .int .i64 x.m, .string x.t] 40) d3
      have heq := eqlE x e
      by_cases hq : eqE x e = true
      · have HQ : Hid (memB l e = true) := Lib.hid (by rw [← HF.out, HC.out, hq]; rfl)
        rw [hq] at heq
        clear HC HF
        go_wp2
        go_ret
        exact RV.mk (by rw [HQ.out]; rfl) (hBV.trans (Below.mono (Below.trans hB (Below.mono ((Below.refl _ _).alloc (Nat.le_refl _) _) hB.size)) hBV.size))
      · have hq : eqE x e = false := by simpa using hq
        have HQ : Hid (memB (l.drop (k + 1)) e = memB l e) := Lib.hid (by rw [← HF.out, HC.out, hq]; rfl)
        rw [hq] at heq
        clear HC HF
        go_wp2
        go_roundw
        case rel => exact ⟨k + 1, by omega, by go_num, HQ, by go_grown⟩
        case measure => simp [intOf]; omega
    · have hd : l.drop k = [] := List.drop_of_length_le (by omega)
      have HE : Hid (memB l e = false) := Lib.hid (by have := HF.out; rw [hd] at this; exact this.symm)
      clear hd HF
      go_wp2
      go_ret
      exact RV.mk (by rw [HE.out]; rfl) (hBV.trans (hB.mono hBV.size))
set_option maxHeartbeats 1000000 in
theorem LackingIn1_any (e : Ent) (B : Nat) (Aa : Option Addr) (ca : Nat) (a : List Ent) (W : World) (hl : a.length ≤ 1048576) (hS : Ents W 0 W.heap.size Aa a) (hB : W.cell? ⟨B, 0, none⟩ = some (.slice Aa a.length ca)) :
    Calls Try.prog 34 #[.agg #[.int .i64 e.r, .int .i64 e.n, .int .i64 e.m, .string e.t], .pointer (some ⟨B, 0, none⟩)] W fun e' w' => e' = .returned (.bool (memB a e)) ∧ Below W.heap.size W w' := by
  have hB2 := lay (Obj.cells #[.int .i64 e.r, .int .i64 e.n, .int .i64 e.m, .string e.t] 40) hB
  have hS0 := (hS.alloc (Obj.cells #[.int .i64 e.r, .int .i64 e.n, .int .i64 e.m, .string e.t] 40)).all
  clear hB
  go_enter Try.func34, Try.ntmps34
  go_wp2_with fail
  refine (ContainsE_any Aa ca a e _ hl hS0).mono ?_
  rintro e w1 ⟨rfl, hb⟩
  have hB : Below W.heap.size W w1 := Below.on' (by go_grown) hb
  go_wp2
  go_ret
  exact ⟨rfl, hB⟩
theorem LackingIn1_enters : Enters 34 := enters Try.func34 (by kernel_rfl) (by kernel_rfl)
set_option maxRecDepth 100000 in
set_option maxHeartbeats 4000000 in
theorem LackingIn_spec (Aa : Option Addr) (ca : Nat) (a : List Ent) (Ab : Option Addr) (cb : Nat) (b : List Ent) (w : World) (hla : a.length ≤ 1048576) (hma : ∀ x ∈ a, x.t.size ≤ 1048576) (hSa : Ents w 0 w.heap.size Aa a) (hca : a.length ≤ ca) (hlb : b.length ≤ 1048576) (hmb : ∀ x ∈ b, x.t.size ≤ 1048576) (hSb : Ents w 0 w.heap.size Ab b) (hcb : b.length ≤ cb) :
    Calls Try.prog 17 #[.slice Aa a.length ca, .slice Ab b.length cb] w (RS2 Ent.cells 4 w (lackR a b) (lackOk a b)) := by
  obtain ⟨i0, hi0, hz0, hz1, hz2⟩ := info_parts Ent.info
  go_enter Try.func17, Try.ntmps17
  go_wp2_with fail
  refine (mgGood_any Aa ca a _ hla hma hSa hca).mono ?_
  rintro e w1 ⟨rfl, hb⟩
  have hb1 : Below w.heap.size w w1 := Below.on' (by go_grown) hb
  clear hb
  have hB1 : Below w.heap.size w w1 := hb1
  replace hSa := (hSa.below hb1).all
  replace hSb := (hSb.below hb1).all
  by_cases g1 : histB a = true
  rotate_left
  · have g1 : histB a = false := by simpa using g1
    clear hi0 hz0 hz1 hz2
    have HN : Hid (lackR a b = [] ∧ lackOk a b = false) := Lib.hid (by simp [lackR, lackOk, g1])
    go_wp2
    go_ret2
    exact RS2.nil_ HN.out.1 HN.out.2 hB1
  go_wp2_with fail
  refine (mgGood_any Ab cb b _ hlb hmb hSb hcb).mono ?_
  rintro e w2 ⟨rfl, hb⟩
  have hb2 : Below w1.heap.size w1 w2 := Below.on' (by go_grown) hb
  clear hb
  have hB2 : Below w.heap.size w w2 := Below.on' hB1 hb2
  replace hSa := (hSa.below hb2).all
  replace hSb := (hSb.below hb2).all
  by_cases g2 : histB b = true
  rotate_left
  · have g2 : histB b = false := by simpa using g2
    clear hi0 hz0 hz1 hz2
    have HN : Hid (lackR a b = [] ∧ lackOk a b = false) := Lib.hid (by simp [lackR, lackOk, g2])
    go_wp2
    go_ret2
    exact RS2.nil_ HN.out.1 HN.out.2 hB2
  have HR : Hid (lackR a b = lackF a b ∧ lackOk a b = true) := Lib.hid (by simp [lackR, lackOk, g1, g2])
  have hz9 := hB2.size
  go_wp2_with fail
  clear g1 g2
  go_loopw [6, 19] (fun o i wr => ∃ (k : Nat) (A : Option Addr) (c : Nat) (r : List Ent), k ≤ b.length ∧ i = .int .i64 k ∧ o = .slice A r.length c ∧ r.length ≤ k ∧ Own Ent.cells 4 40 wr w2.heap.size A c r ∧ Hid (r ++ lackF a (b.drop k) = lackF a b) ∧ Below w2.heap.size w2 wr) (fun _ i _ => b.length - (intOf i).toNat)
  case atStart => exact ⟨0, none, 0, [], Nat.zero_le _, rfl, rfl, Nat.zero_le _, Own.nil_, Lib.hid rfl, Below.refl _ _⟩
  case round =>
    obtain ⟨k, A, c, r, hk, rfl, rfl, hr, hO, HF, hB⟩ := hrel
    by_cases hlt : k < b.length
    · obtain ⟨x, hx, _⟩ := get_lt hlt
      have HC : Hid (lackF a (b.drop k) = if (!memB a x) = true then x :: lackF a (b.drop (k + 1)) else lackF a (b.drop (k + 1))) := Lib.hid (by
        obtain ⟨h1, rfl⟩ := List.getElem?_eq_some_iff.1 hx
        rw [List.drop_eq_getElem_cons h1]; exact List.filter_cons)
      obtain ⟨p, off, rfl, _, _, _, hf⟩ := (hSb.below hB).at_ hx
      have c0 : wr.cell? ⟨p, off + k * 4, none⟩ = some (.int .i64 x.r) := (hf 0 _ rfl).1
      have c1 : wr.cell? ⟨p, off + k * 4 + 1, none⟩ = some (.int .i64 x.n) := (hf 1 _ rfl).1
      have c2 : wr.cell? ⟨p, off + k * 4 + 2, none⟩ = some (.int .i64 x.m) := (hf 2 _ rfl).1
      have c3 : wr.cell? ⟨p, off + k * 4 + 3, none⟩ = some (.string x.t) := (hf 3 _ rfl).1
      clear hf hx
      have hSw := ((hSa.below hB).alloc (Obj.cells #[.int .i64 x.r, .int .i64 x.n, .int .i64 x.m, .string x.t] 40)).all
      have hOw := hO.alloc (Obj.cells #[.int .i64 x.r, .int .i64 x.n, .int .i64 x.m, .string x.t] 40)
      have hBw : Below w2.heap.size w2 (wr.alloc (Obj.cells #[.int .i64 x.r, .int .i64 x.n, .int .i64 x.m, .string x.t] 40)) := by go_grown
      have hN : ∀ W, Below (wr.alloc (Obj.cells #[.int .i64 x.r, .int .i64 x.n, .int .i64 x.m, .string x.t] 40)).heap.size (wr.alloc (Obj.cells #[.int .i64 x.r, .int .i64 x.n, .int .i64 x.m, .string x.t] 40)) W → W.cell? ⟨wr.heap.size, 0, none⟩ = some (.int .i64 x.r) ∧ W.cell? ⟨wr.heap.size, 1, none⟩ = some (.int .i64 x.n) ∧ W.cell? ⟨wr.heap.size, 2, none⟩ = some (.int .i64 x.m) ∧ W.cell? ⟨wr.heap.size, 3, none⟩ = some (.string x.t) := fun W hb =>
        have H := fun t u hu => keep hb (new_cells (E := Ent.cells) wr 40 x _ rfl t u hu)
        ⟨H 0 _ rfl, H 1 _ rfl, H 2 _ rfl, H 3 _ rfl⟩
      clear hO hB
      go_wp2_with fail
      refine (mgHas_any Aa ca a x _ hla hSw).mono ?_
      rintro e wa ⟨rfl, hb⟩
      obtain ⟨d0, d1, d2, d3⟩ := hN _ hb
      have hBa : Below w2.heap.size w2 wa := Below.on' hBw hb
      have hOa := hOw.below hb
      have hza := hBa.size
      clear hb hN hBw hOw hSw c0 c1 c2 c3
      by_cases hq : memB a x = true
      · have HQ := Lib.hid (HC.out.trans (if_neg (by rw [hq]; decide)))
        clear HC
        go_wp2
        go_roundw
        case rel =>
          refine ⟨k + 1, A, c, r, by omega, by go_num, rfl, by omega, hOa, Lib.hid ?_, hBa⟩
          rw [← HF.out, HQ.out]
        case measure => simp [intOf]; omega
      · have hq : memB a x = false := by simpa using hq
        have HQ := Lib.hid (HC.out.trans (if_pos (by rw [hq]; rfl)))
        clear HC
        go_wp2_with (at_builtin; refine wpList_append_one _ rfl (.tmp 27) (.tmp 29) _ rfl i0 _ _ Try.underlying26 hi0 hz0 hz1 hz2 rfl (by omega) Ent.len Ent.one x _ (hOa.alloc _) rfl rfl (new_cells _ _ _ _ rfl) (by unfold maxLen; omega) (by omega) (by simp; omega) ?_; intro A2 c2 wb L hL hO2 hb2)
        have hlen : L.length = r.length + 1 := by rw [hL.out]; simp
        have hlen2 : L.length ≤ k + 1 := by omega
        clear hlen
        have hBc : Below w2.heap.size w2 wb := Below.trans (by go_grown) hb2
        clear hb2 hOa d0 d1 d2 d3
        go_roundw
        case rel =>
          refine ⟨k + 1, A2, c2, L, by omega, by go_num, rfl, hlen2, hO2, Lib.hid ?_, hBc⟩
          rw [hL.out, List.append_assoc, ← HF.out, HQ.out]
          rfl
        case measure => simp [intOf]; omega
    · have hd : b.drop k = [] := List.drop_of_length_le (by omega)
      have HE : Hid (lackF a b = r) := Lib.hid (by have := HF.out; rw [hd] at this; simpa [lackF] using this.symm)
      clear hd HF hi0 hz0 hz1 hz2
      go_wp2
      go_ret2
      exact RS2.own (HR.out.1.trans HE.out) rfl HR.out.2 Ent.len (hO.lift hz9) (Below.on' hB2 hB)
set_option maxHeartbeats 4000000 in
theorem LackingIn_impl (Aa : Option Addr) (ca : Nat) (a : List Ent) (Ab : Option Addr) (cb : Nat) (b : List Ent) (w : World) (hla : a.length ≤ 1048576) (hma : ∀ x ∈ a, x.t.size ≤ 1048576) (hSa : Ents w 0 w.heap.size Aa a) (hca : a.length ≤ ca) (hlb : b.length ≤ 1048576) (hmb : ∀ x ∈ b, x.t.size ≤ 1048576) (hSb : Ents w 0 w.heap.size Ab b) (hcb : b.length ≤ cb) :
    Calls Try.prog 18 #[.slice Aa a.length ca, .slice Ab b.length cb] w (RS2 Ent.cells 4 w (lackR a b) (lackOk a b)) := by
  have hcell : (w.alloc (Obj.cells #[.slice Aa a.length ca] 26)).cell? ⟨w.heap.size, 0, none⟩ = some (.slice Aa a.length ca) := by rw [World.cell?_alloc_at _ _ _ _ rfl]; rfl
  have hA0 := (hSa.alloc (Obj.cells #[.slice Aa a.length ca] 26)).all
  have hB0 := (hSb.alloc (Obj.cells #[.slice Aa a.length ca] 26)).all
  have hBV0 : Below w.heap.size w (w.alloc (Obj.cells #[.slice Aa a.length ca] 26)) := by go_grown
  have hsz0 : w.heap.size < (w.alloc (Obj.cells #[.slice Aa a.length ca] 26)).heap.size := by simp
  go_enter Try.func18, Try.ntmps18
  go_wp2_with fail
  generalize w.alloc (Obj.cells #[.slice Aa a.length ca] 26) = V at hcell hA0 hB0 hBV0 hsz0 ⊢
  clear hSa hSb
  refine (isHistory_any Aa ca a V hla hma hA0 hca).mono ?_
  rintro e w1 ⟨rfl, hb⟩
  have hB1 : Below w.heap.size w w1 := hBV0.trans (hb.mono hBV0.size)
  have hc1 := keep hb hcell
  replace hA0 := (hA0.below hb).all
  replace hB0 := (hB0.below hb).all
  have hz1 := hb.size
  clear hb hcell
  by_cases g1 : histB a = true
  rotate_left
  · have g1 : histB a = false := by simpa using g1
    have HN : Hid (lackR a b = [] ∧ lackOk a b = false) := Lib.hid (by simp [lackR, lackOk, g1])
    go_wp2
    go_ret2
    exact RS2.nil_ HN.out.1 HN.out.2 hB1
  go_wp2_with fail
  refine (isHistory_any Ab cb b _ hlb hmb hB0 hcb).mono ?_
  rintro e w2 ⟨rfl, hb⟩
  have hb2 : Below w1.heap.size w1 w2 := Below.on' (by go_grown) hb
  clear hb
  have hB2 : Below w.heap.size w w2 := Below.on' hB1 hb2
  replace hA0 := (hA0.below hb2).all
  replace hB0 := (hB0.below hb2).all
  replace hc1 := keep hb2 hc1
  have hz2 := hb2.size
  by_cases g2 : histB b = true
  rotate_left
  · have g2 : histB b = false := by simpa using g2
    have HN : Hid (lackR a b = [] ∧ lackOk a b = false) := Lib.hid (by simp [lackR, lackOk, g2])
    go_wp2
    go_ret2
    exact RS2.nil_ HN.out.1 HN.out.2 hB2
  have hAk0 : Ents w2 0 w2.heap.size Aa a := hA0
  go_wp2_with fail
  refine (CloneE_any Ab cb b _ hlb hB0).mono ?_
  rintro e w3 ⟨A1, c1, rfl, hO, hb⟩
  have hb3 : Below w2.heap.size w2 w3 := Below.on' (by go_grown) hb
  clear hb
  have hB3 : Below w.heap.size w w3 := Below.on' hB2 hb3
  replace hA0 := (hA0.below hb3).all
  replace hB0 := (hB0.below hb3).all
  replace hc1 := keep hb3 hc1
  have hz3 := hb3.size
  have hcap := hO.cap
  have hcm := hO.capMax
  have hS1 := hO.sl Ent.len
  have HR : Hid (lackR a b = lackF a b ∧ lackOk a b = true) := Lib.hid (by simp [lackR, lackOk, g1, g2])
  have hAk := hAk0.below hb3
  have hP : Pred 34 #[.pointer (some ⟨w.heap.size, 0, none⟩)] (memB a) w2.heap.size w3.heap.size b w3 := fun U x _ hF =>
    LackingIn1_any x _ Aa ca a U hla ((hAk.fr hF (.inl (Nat.le_refl _))).all) ((World.cell?_of_block (hF.block _ (World.block_lt_of_cell? _ _ hc1) (by show ¬ (w2.heap.size ≤ w.heap.size ∧ _); omega))).trans hc1)
  clear hO g1 g2
  go_wp2_with fail
  refine (DeleteFuncE_any _ _ (memB a) A1 c1 w2.heap.size w3.heap.size b w3 LackingIn1_enters hlb hcap hcm hS1 hP).mono ?_
  rintro e w4 ⟨rfl, hT, hF⟩
  have hB4 : Below w.heap.size w w4 := hB3.trans (hF.below (by omega) hB3.size)
  have hsz3 := hF.size
  have hle : (lackF a b).length ≤ c1 := Nat.le_trans (List.length_filter_le _ _) hcap
  have hT' : Ents w4 w2.heap.size w3.heap.size A1 (lackF a b) := hT
  clear hP hc1 hS1 hF hT
  go_wp2
  go_ret2
  exact RS2.of HR.out.1 rfl HR.out.2 (hT'.mono (Nat.le_refl _) hsz3 (Nat.le_refl _)) (by omega) hle hB4
end Go.Proofs.Ytbddghbcgolbnaa

/- Logs that are copied, cut, joined, and grown by an entry. Conditions: lists and texts of at most 2^20. -/
import Derived.Test.YtmdmcjhodhphgaaGreatDoorBeginB
import Derived.Test.YtmdmcjhodhphgaaGreatDoorPost
namespace Go.Proofs.YtmdmcjhodhphgaaGreatDoor
open Go.RowKit

theorem Ent.one (x : Ent) : ∀ u ∈ x.cells, u.oneCell' = true := by
  intro u hu
  simp [Ent.cells] at hu
  rcases hu with rfl | rfl | rfl | rfl <;> rfl

theorem CloneE_any (Al : Option Addr) (cl : Nat) (l : List Ent) (w : World) (hll : l.length ≤ 1048576) (hSl : Ents w 0 w.heap.size Al l) : Calls Tryz.prog 58 #[.slice Al l.length cl] w (RO1 Ent.cells 4 33 w l) := by
  obtain ⟨i0, hi0, hz0, hz1, hz2⟩ := info_parts Ent.info
  have qn : ∀ (w : World) (a : Option Addr) (n c n' c' : Nat), (binOp .eql 24 (.slice a n c) (.slice none n' c')).run Tryz.prog w = .ok (.bool a.isNone) w := fun w a n c n' c' => Lib.run_eql_slice_nil w _ _ a n c n' c' Tryz.underlying24
  cases Al with
  | none =>
    have hl0 := hSl.none_nil
    subst hl0
    go_enter Tryz.func58, Tryz.ntmps58
    go_wp2
    go_ret
    exact ⟨none, 0, rfl, Own.nil_, Below.refl _ _⟩
  | some ad =>
    go_enter Tryz.func58, Tryz.ntmps58
    go_wp2_with (at_builtin; refine wpList_append_all _ rfl (.tmp 5) (.tmp 6) _ rfl i0 _ _ Tryz.underlying24 hi0 hz0 hz1 hz2 rfl (by omega) Ent.len Ent.one (Own.empty w (Nat.le_refl _)) (hSl.alloc _) rfl rfl (by unfold maxLen; first | omega | (simp; omega)) (by first | omega | (simp; omega)) (by first | exact Nat.le_refl _ | (simp; done) | omega) ?_; intro A' c' w1 L hL hO hB; have hB1 : Below w.heap.size w w1 := Below.trans (by go_grown) hB)
    clear hi0 hz0 hz1 hz2 hB qn
    go_ret
    obtain rfl : L = l := hL.out
    exact ⟨A', c', rfl, hO, hB1⟩
def appL (l : List Ent) (r m : Int) (t : ByteArray) : List Ent := l ++ [⟨r, (l.length : Int) + 1, m, t⟩]
def lgAppR (l : List Ent) (r m : Int) (t : ByteArray) : List Ent := if logB (appL l r m t) = true then appL l r m t else []
set_option maxHeartbeats 1000000 in
theorem lgAppend_any (Al : Option Addr) (cl : Nat) (l : List Ent) (r : Int) (m : Int) (t : ByteArray) (w : World) (_hll : l.length ≤ 1048576) (hml : ∀ x ∈ l, x.t.size ≤ 1048576) (hSl : Ents w 0 w.heap.size Al l) (_hcl : l.length ≤ cl) (hst : t.size ≤ 1048576) :
    Calls Tryz.prog 56 #[.slice Al l.length cl, .int .i64 r, .int .i64 m, .string t] w (RS2 Ent.cells 4 w (lgAppR l r m t) (logB (appL l r m t))) := by
  obtain ⟨i0, hi0, hz0, hz1, hz2⟩ := info_parts Ent.info
  go_enter Tryz.func56, Tryz.ntmps56
  go_wp2_with (first
    | (at_builtin; refine wpList_append_all _ rfl (.tmp 11) (.tmp 12) _ rfl i0 _ _ Tryz.underlying24 hi0 hz0 hz1 hz2 rfl (by omega) Ent.len Ent.one (Own.empty w (Nat.le_refl _)) (hSl.alloc _) rfl rfl (by unfold maxLen; first | omega | (simp; omega)) (by first | omega | (simp; omega)) (by first | exact Nat.le_refl _ | (simp; done) | omega) ?_; intro A1 c1 w1 L0 hL0 hO1 hB; obtain rfl : l = L0 := hL0.out.symm; have hB1 : Below w.heap.size w w1 := Below.trans (by go_grown) hB; have hz9 := hB1.size; clear hB hL0)
    | (at_builtin; refine wpList_append_one _ rfl (.tmp 13) (.tmp 21) _ rfl i0 _ _ Tryz.underlying24 hi0 hz0 hz1 hz2 rfl (by omega) Ent.len Ent.one (⟨r, (l.length : Int) + 1, m, t⟩ : Ent) _ (hO1.alloc _) rfl rfl (new_cells _ _ _ _ rfl) (by unfold maxLen; first | omega | (simp; omega)) (by first | omega | (simp; omega)) (by simp; omega) ?_; intro A2 c2 w2 L hL hO2 hB))
  replace hL : Hid (L = appL l r m t) := hL
  have hlen : L.length = l.length + 1 := by rw [hL.out]; simp [appL]
  have hlen1 : L.length ≤ maxLen := by unfold maxLen; omega
  have hmL : ∀ x ∈ L, x.t.size ≤ maxLen := by
    intro x hx
    rw [hL.out, appL, List.mem_append] at hx
    rcases hx with hx | hx
    · exact big (hml x hx)
    · rw [List.mem_singleton] at hx; subst hx; exact big hst
  have hB2 : Below w.heap.size w w2 := Below.trans (by go_grown) hB
  clear hi0 hz0 hz1 hz2 hB hlen
  go_wp2_with fail
  refine (lgGood_any A2 c2 L _ hlen1 hmL (hO2.sl Ent.len).all).mono ?_
  rintro e w3 ⟨rfl, hb⟩
  have hb3 : Below w2.heap.size w2 w3 := Below.on' (by go_grown) hb
  clear hb
  have hB3 : Below w.heap.size w w3 := Below.on' hB2 hb3
  replace hO2 := hO2.below hb3
  by_cases g3 : logB L = true
  rotate_left
  · have g3 : logB L = false := by simpa using g3
    have HR : Hid (lgAppR l r m t = [] ∧ logB (appL l r m t) = false) := Lib.hid (by rw [← hL.out]; simp [lgAppR, ← hL.out, g3])
    clear hO2
    go_wp2
    go_ret2
    exact RS2.nil_ HR.out.1 HR.out.2 hB3
  have HR : Hid (lgAppR l r m t = L ∧ logB (appL l r m t) = true) := Lib.hid (by rw [← hL.out]; simp [lgAppR, ← hL.out, g3])
  go_wp2
  go_ret2
  exact RS2.own HR.out.1 rfl HR.out.2 Ent.len hO2 hB3
set_option maxHeartbeats 1000000 in
theorem appendEntry_any (Al : Option Addr) (cl : Nat) (l : List Ent) (r : Int) (m : Int) (t : ByteArray) (w : World) (hll : l.length ≤ 1048576) (hml : ∀ x ∈ l, x.t.size ≤ 1048576) (hSl : Ents w 0 w.heap.size Al l) (_hcl : l.length ≤ cl) (hst : t.size ≤ 1048576) :
    Calls Tryz.prog 54 #[.slice Al l.length cl, .int .i64 r, .int .i64 m, .string t] w (RS2 Ent.cells 4 w (lgAppR l r m t) (logB (appL l r m t))) := by
  obtain ⟨i0, hi0, hz0, hz1, hz2⟩ := info_parts Ent.info
  go_enter Tryz.func54, Tryz.ntmps54
  go_wp2_with fail
  refine (CloneE_any Al cl l _ hll hSl).mono ?_
  rintro e w1 ⟨A1, c1, rfl, hO1, hb⟩
  have hb1 : Below w.heap.size w w1 := Below.on' (by go_grown) hb
  clear hb
  have hB1 : Below w.heap.size w w1 := hb1
  have hz9 := hB1.size
  go_wp2_with (at_builtin; refine wpList_append_one _ rfl (.tmp 12) (.tmp 20) _ rfl i0 _ _ Tryz.underlying24 hi0 hz0 hz1 hz2 rfl (by omega) Ent.len Ent.one (⟨r, (l.length : Int) + 1, m, t⟩ : Ent) _ (hO1.alloc _) rfl rfl (new_cells _ _ _ _ rfl) (by unfold maxLen; first | omega | (simp; omega)) (by first | omega | (simp; omega)) (by simp; omega) ?_; intro A2 c2 w2 L hL hO2 hB)
  replace hL : Hid (L = appL l r m t) := hL
  have hlen : L.length = l.length + 1 := by rw [hL.out]; simp [appL]
  have hlen1 : L.length ≤ maxLen := by unfold maxLen; omega
  have hmL : ∀ x ∈ L, x.t.size ≤ maxLen := by
    intro x hx
    rw [hL.out, appL, List.mem_append] at hx
    rcases hx with hx | hx
    · exact big (hml x hx)
    · rw [List.mem_singleton] at hx; subst hx; exact big hst
  have hB2 : Below w.heap.size w w2 := Below.trans (by go_grown) hB
  clear hi0 hz0 hz1 hz2 hB hlen
  go_wp2_with fail
  refine (isLog_any A2 c2 L _ hlen1 hmL (hO2.sl Ent.len).all).mono ?_
  rintro e w3 ⟨rfl, hb⟩
  have hb3 : Below w2.heap.size w2 w3 := Below.on' (by go_grown) hb
  clear hb
  have hB3 : Below w.heap.size w w3 := Below.on' hB2 hb3
  replace hO2 := hO2.below hb3
  by_cases g3 : logB L = true
  rotate_left
  · have g3 : logB L = false := by simpa using g3
    have HR : Hid (lgAppR l r m t = [] ∧ logB (appL l r m t) = false) := Lib.hid (by rw [← hL.out]; simp [lgAppR, ← hL.out, g3])
    clear hO2
    go_wp2
    go_ret2
    exact RS2.nil_ HR.out.1 HR.out.2 hB3
  have HR : Hid (lgAppR l r m t = L ∧ logB (appL l r m t) = true) := Lib.hid (by rw [← hL.out]; simp [lgAppR, ← hL.out, g3])
  go_wp2
  go_ret2
  exact RS2.own HR.out.1 rfl HR.out.2 Ent.len hO2 hB3
def appR (l : List Ent) (r m : Int) (t : ByteArray) : List Ent := if logB l = true then lgAppR l r m t else []
def appOk (l : List Ent) (r m : Int) (t : ByteArray) : Bool := logB l && logB (appL l r m t)
theorem app_last {l : List Ent} {r m : Int} {t : ByteArray} (h : logB (appL l r m t) = true) : roomB r = true ∧ minB m = true ∧ textB t 40 = true := by
  have h2 : (List.range (appL l r m t).length).all (okAt (appL l r m t)) = true := by
    unfold logB at h; simp only [Bool.and_eq_true] at h; exact h.1
  have hlen : (appL l r m t).length = l.length + 1 := by simp [appL]
  have h3 := List.all_eq_true.1 h2 l.length (List.mem_range.2 (by omega))
  have hx : (appL l r m t)[l.length]? = some ⟨r, (l.length : Int) + 1, m, t⟩ := by simp [appL]
  obtain ⟨y, hy, _⟩ := get_lt (l := appL l r m t) (i := 0) (by omega)
  obtain ⟨z, hz, _⟩ := get_lt (l := appL l r m t) (i := l.length - 1) (by omega)
  rw [okAt_eq hx hy hz] at h3
  simp only [Bool.and_eq_true, entB] at h3
  exact ⟨h3.1.1.1.1.1.1, h3.1.1.1.1.2, h3.1.1.1.2⟩
theorem app_no {l : List Ent} {r m : Int} {t : ByteArray} (h : roomB r = false ∨ minB m = false ∨ textB t 40 = false) : appR l r m t = [] ∧ appOk l r m t = false := by
  have : logB (appL l r m t) = false := by
    rw [Bool.eq_false_iff]
    intro hh
    obtain ⟨h1, h2, h3⟩ := app_last hh
    rcases h with h | h | h
    · rw [h1] at h; cases h
    · rw [h2] at h; cases h
    · rw [h3] at h; cases h
  simp [appR, appOk, lgAppR, this]
set_option maxHeartbeats 1000000 in
theorem AppendEntry_spec (Al : Option Addr) (cl : Nat) (l : List Ent) (r : Int) (m : Int) (t : ByteArray) (w : World) (hll : l.length ≤ 1048576) (hml : ∀ x ∈ l, x.t.size ≤ 1048576) (hSl : Ents w 0 w.heap.size Al l) (hcl : l.length ≤ cl) (hst : t.size ≤ 1048576) :
    Calls Tryz.prog 8 #[.slice Al l.length cl, .int .i64 r, .int .i64 m, .string t] w (RS2 Ent.cells 4 w (appR l r m t) (appOk l r m t)) := by
  go_enter Tryz.func8, Tryz.ntmps8
  go_wp2_with fail
  refine (lgGood_any Al cl l _ (big hll) (bigs hml) hSl).mono ?_
  rintro e w1 ⟨rfl, hb⟩
  have hb1 : Below w.heap.size w w1 := Below.on' (by go_grown) hb
  clear hb
  have hB1 : Below w.heap.size w w1 := hb1
  replace hSl := (hSl.below hb1).all
  by_cases g1 : logB l = true
  rotate_left
  · have g1 : logB l = false := by simpa using g1
    go_wp2
    go_ret2
    exact RS2.nil_ (by simp [appR, g1]) (by simp [appOk, g1]) hB1
  go_wp2_with fail
  refine (lgAppend_any Al cl l r m t _ hll hml hSl hcl hst).mono ?_
  rintro e w2 ⟨A1, c1, rfl, hU, hc1, hb⟩
  have hb2 : Below w1.heap.size w1 w2 := Below.on' (by go_grown) hb
  clear hb
  have hB2 : Below w.heap.size w w2 := Below.on' hB1 hb2
  replace hSl := (hSl.below hb2).all
  have HR : Hid (appR l r m t = lgAppR l r m t ∧ appOk l r m t = logB (appL l r m t)) := Lib.hid (by simp [appR, appOk, g1])
  go_wp2
  go_ret2
  exact RS2.of HR.out.1 rfl HR.out.2 hU (by have := hB1.size; omega) hc1 hB2
set_option maxHeartbeats 1000000 in
theorem AppendEntry_impl (Al : Option Addr) (cl : Nat) (l : List Ent) (r : Int) (m : Int) (t : ByteArray) (w : World) (hll : l.length ≤ 1048576) (hml : ∀ x ∈ l, x.t.size ≤ 1048576) (hSl : Ents w 0 w.heap.size Al l) (hcl : l.length ≤ cl) (hst : t.size ≤ 1048576) :
    Calls Tryz.prog 7 #[.slice Al l.length cl, .int .i64 r, .int .i64 m, .string t] w (RS2 Ent.cells 4 w (appR l r m t) (appOk l r m t)) := by
  go_enter Tryz.func7, Tryz.ntmps7
  go_wp2_with fail
  refine (isLog_any Al cl l _ (big hll) (bigs hml) hSl).mono ?_
  rintro e w1 ⟨rfl, hb⟩
  have hb1 : Below w.heap.size w w1 := Below.on' (by go_grown) hb
  clear hb
  have hB1 : Below w.heap.size w w1 := hb1
  replace hSl := (hSl.below hb1).all
  by_cases g1 : logB l = true
  rotate_left
  · have g1 : logB l = false := by simpa using g1
    go_wp2
    go_ret2
    exact RS2.nil_ (by simp [appR, g1]) (by simp [appOk, g1]) hB1
  go_wp2_with fail
  refine (isRoom_any _ _).mono ?_
  rintro e w2 ⟨rfl, hb⟩
  have hb2 : Below w1.heap.size w1 w2 := Below.on' (by go_grown) hb
  clear hb
  have hB2 : Below w.heap.size w w2 := Below.on' hB1 hb2
  replace hSl := (hSl.below hb2).all
  by_cases g2 : roomB r = true
  rotate_left
  · have g2 : roomB r = false := by simpa using g2
    have HN := Lib.hid (app_no (l := l) (r := r) (m := m) (t := t) (.inl g2))
    go_wp2
    go_ret2
    exact RS2.nil_ HN.out.1 HN.out.2 hB2
  go_wp2_with fail
  refine (isLogMinute_any _ _).mono ?_
  rintro e w3 ⟨rfl, hb⟩
  have hb3 : Below w2.heap.size w2 w3 := Below.on' (by go_grown) hb
  clear hb
  have hB3 : Below w.heap.size w w3 := Below.on' hB2 hb3
  replace hSl := (hSl.below hb3).all
  by_cases g3 : minB m = true
  rotate_left
  · have g3 : minB m = false := by simpa using g3
    have HN := Lib.hid (app_no (l := l) (r := r) (m := m) (t := t) (.inr (.inl g3)))
    go_wp2
    go_ret2
    exact RS2.nil_ HN.out.1 HN.out.2 hB3
  go_wp2_with fail
  refine (isText_any t (big hst) _).mono ?_
  rintro e w4 ⟨rfl, hb⟩
  have hb4 : Below w3.heap.size w3 w4 := Below.on' (by go_grown) hb
  clear hb
  have hB4 : Below w.heap.size w w4 := Below.on' hB3 hb4
  replace hSl := (hSl.below hb4).all
  by_cases g4 : textB t 40 = true
  rotate_left
  · have g4 : textB t 40 = false := by simpa using g4
    have HN := Lib.hid (app_no (l := l) (r := r) (m := m) (t := t) (.inr (.inr g4)))
    go_wp2
    go_ret2
    exact RS2.nil_ HN.out.1 HN.out.2 hB4
  go_wp2_with fail
  refine (appendEntry_any Al cl l r m t _ hll hml hSl hcl hst).mono ?_
  rintro e w5 ⟨A1, c1, rfl, hU, hc1, hb⟩
  have hb5 : Below w4.heap.size w4 w5 := Below.on' (by go_grown) hb
  clear hb
  have hB5 : Below w.heap.size w w5 := Below.on' hB4 hb5
  replace hSl := (hSl.below hb5).all
  have HR : Hid (appR l r m t = lgAppR l r m t ∧ appOk l r m t = logB (appL l r m t)) := Lib.hid (by simp [appR, appOk, g1])
  go_wp2
  go_ret2
  exact RS2.of HR.out.1 rfl HR.out.2 hU (by have := hB4.size; omega) hc1 hB5
theorem logB_len {l : List Ent} (h : logB l = true) : l.length ≤ 20 := by
  unfold logB at h
  simp only [Bool.and_eq_true, decide_eq_true_eq] at h
  exact h.2
theorem appR_len (l : List Ent) (r m : Int) (t : ByteArray) : (appR l r m t).length ≤ 1048576 := by
  unfold appR lgAppR
  by_cases h1 : logB l = true
  · rw [if_pos h1]
    by_cases h2 : logB (appL l r m t) = true
    · rw [if_pos h2]; have := logB_len h2; omega
    · rw [if_neg h2]; exact Nat.zero_le _
  · rw [if_neg h1]; exact Nat.zero_le _
def cutOk (l : List Ent) (n : Int) : Bool := logB l && inB n 0 l.length
def cutR (l : List Ent) (n : Int) : List Ent := if cutOk l n = true then l.take n.toNat else []
theorem cutR_len (l : List Ent) (n : Int) : (cutR l n).length ≤ l.length := by
  unfold cutR
  split
  · simp; omega
  · exact Nat.zero_le _
set_option maxHeartbeats 1000000 in
theorem CutLog_spec (Al : Option Addr) (cl : Nat) (l : List Ent) (n : Int) (w : World) (hll : l.length ≤ 1048576) (hml : ∀ x ∈ l, x.t.size ≤ 1048576) (hSl : Ents w 0 w.heap.size Al l) (_hcl : l.length ≤ cl) :
    Calls Tryz.prog 43 #[.slice Al l.length cl, .int .i64 n] w (RS2 Ent.cells 4 w (cutR l n) (cutOk l n)) := by
  obtain ⟨i0, hi0, hz0, hz1, hz2⟩ := info_parts Ent.info
  go_enter Tryz.func43, Tryz.ntmps43
  go_wp2_with fail
  refine (lgGood_any Al cl l _ (big hll) (bigs hml) hSl).mono ?_
  rintro e w1 ⟨rfl, hb⟩
  have hb1 : Below w.heap.size w w1 := Below.on' (by go_grown) hb
  clear hb
  have hB1 : Below w.heap.size w w1 := hb1
  replace hSl := (hSl.below hb1).all
  by_cases g1 : logB l = true
  rotate_left
  · have g1 : logB l = false := by simpa using g1
    clear hi0 hz0 hz1 hz2
    go_wp2
    go_ret2
    exact RS2.nil_ (by simp [cutR, cutOk, g1]) (by simp [cutOk, g1]) hB1
  go_wp2_with fail
  refine (l1In_any _ _ _ _).mono ?_
  rintro e w2 ⟨rfl, hb⟩
  have hb2 : Below w1.heap.size w1 w2 := Below.on' (by go_grown) hb
  clear hb
  have hB2 : Below w.heap.size w w2 := Below.on' hB1 hb2
  replace hSl := (hSl.below hb2).all
  by_cases g2 : inB n 0 l.length = true
  rotate_left
  · have g2 : inB n 0 l.length = false := by simpa using g2
    clear hi0 hz0 hz1 hz2
    go_wp2
    go_ret2
    exact RS2.nil_ (by simp [cutR, cutOk, g2]) (by simp [cutOk, g2]) hB2
  have HR : Hid (cutR l n = l.take n.toNat ∧ cutOk l n = true) := Lib.hid (by simp [cutR, cutOk, g1, g2])
  obtain ⟨n0, n1⟩ : 0 ≤ n ∧ n ≤ l.length := by simpa [inB] using g2
  obtain ⟨k, rfl⟩ : ∃ k : Nat, n = k := ⟨n.toNat, by omega⟩
  have n2 : (k : Int) ≤ cl := by omega
  have hlk : (l.take k).length = k := by simp; omega
  replace HR : Hid (cutR l k = l.take k ∧ cutOk l k = true) := HR
  replace hlk := Lib.hid hlk
  have hz9 := hB2.size
  go_wp2_with (at_builtin; refine wpList_append_all _ rfl (.tmp 16) (.tmp 19) _ rfl i0 _ _ Tryz.underlying24 hi0 hz0 hz1 hz2 rfl (by omega) Ent.len Ent.one (Own.empty _ (base := w.heap.size) (by have := hB2.size; omega)) ((hSl.take k).alloc _) rfl (by rw [hlk.out]; rfl) (by rw [hlk.out]; unfold maxLen; simp; omega) (by rw [hlk.out]; simp; omega) (by simp; omega) ?_; intro A' c' w3 L hL hO hB)
  have hB3 : Below w.heap.size w w3 := Below.trans (by go_grown) hB
  clear hi0 hz0 hz1 hz2 hB
  go_ret2
  exact RS2.own (HR.out.1.trans hL.out.symm) rfl HR.out.2 Ent.len hO hB3
theorem CloneE_at (A : Option Addr) (c n : Nat) (l : List Ent) (hn : l.length = n) (w : World) (hl : n ≤ 1048576) (hS : Ents w 0 w.heap.size A l) : Calls Tryz.prog 58 #[.slice A n c] w fun e w' => ∃ A c, e = .returned (.slice A n c) ∧ Own Ent.cells 4 33 w' w.heap.size A c l ∧ Below w.heap.size w w' := by
  subst hn
  exact CloneE_any A c l w hl hS
set_option maxHeartbeats 1000000 in
theorem CutLog_impl (Al : Option Addr) (cl : Nat) (l : List Ent) (n : Int) (w : World) (hll : l.length ≤ 1048576) (hml : ∀ x ∈ l, x.t.size ≤ 1048576) (hSl : Ents w 0 w.heap.size Al l) (_hcl : l.length ≤ cl) :
    Calls Tryz.prog 10 #[.slice Al l.length cl, .int .i64 n] w (RS2 Ent.cells 4 w (cutR l n) (cutOk l n)) := by
  go_enter Tryz.func10, Tryz.ntmps10
  go_wp2_with fail
  refine (isLog_any Al cl l _ (big hll) (bigs hml) hSl).mono ?_
  rintro e w1 ⟨rfl, hb⟩
  have hb1 : Below w.heap.size w w1 := Below.on' (by go_grown) hb
  clear hb
  have hB1 : Below w.heap.size w w1 := hb1
  replace hSl := (hSl.below hb1).all
  by_cases g1 : logB l = true
  rotate_left
  · have g1 : logB l = false := by simpa using g1
    skip
    go_wp2
    go_ret2
    exact RS2.nil_ (by simp [cutR, cutOk, g1]) (by simp [cutOk, g1]) hB1
  go_wp2_with fail
  refine (inside_any _ _ _ _).mono ?_
  rintro e w2 ⟨rfl, hb⟩
  have hb2 : Below w1.heap.size w1 w2 := Below.on' (by go_grown) hb
  clear hb
  have hB2 : Below w.heap.size w w2 := Below.on' hB1 hb2
  replace hSl := (hSl.below hb2).all
  by_cases g2 : inB n 0 l.length = true
  rotate_left
  · have g2 : inB n 0 l.length = false := by simpa using g2
    skip
    go_wp2
    go_ret2
    exact RS2.nil_ (by simp [cutR, cutOk, g2]) (by simp [cutOk, g2]) hB2
  have HR : Hid (cutR l n = l.take n.toNat ∧ cutOk l n = true) := Lib.hid (by simp [cutR, cutOk, g1, g2])
  obtain ⟨n0, n1⟩ : 0 ≤ n ∧ n ≤ l.length := by simpa [inB] using g2
  obtain ⟨k, rfl⟩ : ∃ k : Nat, n = k := ⟨n.toNat, by omega⟩
  have n2 : (k : Int) ≤ cl := by omega
  have hlk : (l.take k).length = k := by simp; omega
  replace HR : Hid (cutR l k = l.take k ∧ cutOk l k = true) := HR
  replace hlk := Lib.hid hlk
  go_wp2_with fail
  refine (CloneE_at Al _ k (l.take k) hlk.out _ (by omega) (hSl.take k)).mono ?_
  rintro e w3 ⟨A1, c1, rfl, hO, hb⟩
  have hb3 : Below w2.heap.size w2 w3 := Below.on' (by go_grown) hb
  clear hb
  have hB3 : Below w.heap.size w w3 := Below.on' hB2 hb3
  replace hSl := (hSl.below hb3).all
  go_wp2
  go_ret2
  exact RS2.own HR.out.1 hlk.out.symm HR.out.2 Ent.len (hO.lift (by have := hB2.size; omega)) hB3
def mjR (a b : List Ent) : List Ent := if begF b a = true then a else if begF a b = true then b else []
def mjOk (a b : List Ent) : Bool := begF b a || begF a b
def joinR (a b : List Ent) : List Ent := if twoB a b = true then mjR a b else []
def joinOk (a b : List Ent) : Bool := twoB a b && mjOk a b
theorem mjR_or (a b : List Ent) : mjR a b = a ∨ mjR a b = b ∨ mjR a b = [] := by
  unfold mjR
  split
  · exact .inl rfl
  · split
    · exact .inr (.inl rfl)
    · exact .inr (.inr rfl)
theorem joinR_len {a b : List Ent} (ha : a.length ≤ 1048576) (hb : b.length ≤ 1048576) : (joinR a b).length ≤ 1048576 := by
  unfold joinR
  split
  · rcases mjR_or a b with h | h | h <;> rw [h]
    · exact ha
    · exact hb
    · exact Nat.zero_le _
  · exact Nat.zero_le _
end Go.Proofs.YtmdmcjhodhphgaaGreatDoor

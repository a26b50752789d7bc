/- Ends: the small functions, both sides. Conditions: lists and texts of at most 2^20; the listed variables as Said has them. -/
import Derived.Test.YtianabfehonliaaDoorEndsP
import Derived.Test.YtianabfehonliaaDoorPsI
import Derived.Test.YtianabfehonliaaDoorCInts
import Derived.Test.YtianabfehonliaaDoorChan
namespace Go.Proofs.YtianabfehonliaaDoor
open Go.RowKit

theorem ints_lit (w : World) (l : List Int) (cs : Array Value) (T : TypeId) (n : Nat) (hn : n = w.heap.size) (hcs : cs = (l.map (Value.int .i64)).toArray) : Ints (w.alloc (.cells cs T)) w.heap.size (w.alloc (.cells cs T)).heap.size (some ⟨n, 0, none⟩) l := fun _ => by
  subst hn hcs
  refine ⟨w.heap.size, 0, rfl, Nat.le_refl _, by simp, Nat.le_refl _, fun i x hx j v hv => ?_⟩
  have hj : j = 0 := by have := (List.getElem?_eq_some_iff.1 hv).1; simp [Ints.cells] at this; omega
  subst hj
  have hv' : v = .int .i64 x := by simpa [Ints.cells] using hv.symm
  subst hv'
  refine ⟨?_, World.frozen?_alloc_at _ _ _ _ rfl⟩
  rw [World.cell?_alloc_at _ _ _ _ rfl]
  simp [hx]
/-- As the program lists them. -/
def nextI (a : Int) : List Int := if a = 0 then [1, 5] else if a = 1 then [2, 0] else if a = 2 then [3, 4] else if a = 3 then [4] else if a = 4 then [0, 1, 5] else [0]
theorem nextI_may (a b : Int) : (nextI a).contains b = mayB a b := by
  rw [Bool.eq_iff_iff, List.contains_iff_mem, mayB, decide_eq_true_eq, nextI, nextL]
  repeat' split
  all_goals simp [or_comm]
theorem nextL_len (a : Int) : (nextL a).length ≤ 3 := by unfold nextL; (repeat' split) <;> simp
theorem nextI_len (a : Int) : (nextI a).length ≤ 3 := by unfold nextI; (repeat' split) <;> simp
set_option maxHeartbeats 1000000 in
theorem apNext_any (a : Int) (w : World) : Calls Tryd.prog 66 #[.int .i64 a] w (RS1 Ints.cells 1 w (nextL a)) := by
  have fin : ∀ (l : List Int) (cs : Array Value), nextL a = l → cs = (l.map (Value.int .i64)).toArray → ∀ W, W = w.alloc (.cells cs 3) → RS1 Ints.cells 1 w (nextL a) (.returned (.slice (some ⟨w.heap.size, 0, none⟩) l.length l.length)) W := by
    intro l cs hl hcs W hW
    subst hW
    rw [hl]
    exact ⟨_, _, rfl, ints_lit w l cs _ _ rfl hcs, Nat.le_refl _, (Below.refl _ _).alloc (Nat.le_refl _) _⟩
  by_cases h0 : a = 0
  · subst h0
    have HF := Lib.hid (fin _ _ rfl rfl _ rfl)
    clear fin
    go_enter Tryd.func66, Tryd.ntmps66
    go_wp2
    go_ret
    exact HF.out
  by_cases h1 : a = 1
  · subst h1
    have HF := Lib.hid (fin _ _ rfl rfl _ rfl)
    clear fin
    go_enter Tryd.func66, Tryd.ntmps66
    go_wp2
    go_ret
    exact HF.out
  by_cases h2 : a = 2
  · subst h2
    have HF := Lib.hid (fin _ _ rfl rfl _ rfl)
    clear fin
    go_enter Tryd.func66, Tryd.ntmps66
    go_wp2
    go_ret
    exact HF.out
  by_cases h3 : a = 3
  · subst h3
    have HF := Lib.hid (fin _ _ rfl rfl _ rfl)
    clear fin
    go_enter Tryd.func66, Tryd.ntmps66
    go_wp2
    go_ret
    exact HF.out
  by_cases h4 : a = 4
  · subst h4
    have HF := Lib.hid (fin _ _ rfl rfl _ rfl)
    clear fin
    go_enter Tryd.func66, Tryd.ntmps66
    go_wp2
    go_ret
    exact HF.out
  have HF := Lib.hid (fin [0] _ (by unfold nextL; simp [h0, h1, h2, h3, h4]) rfl _ rfl)
  have k0 : (a == 0) = false := by simpa using h0
  have k1 : (a == 1) = false := by simpa using h1
  have k2 : (a == 2) = false := by simpa using h2
  have k3 : (a == 3) = false := by simpa using h3
  have k4 : (a == 4) = false := by simpa using h4
  clear fin h0 h1 h2 h3 h4
  go_enter Tryd.func66, Tryd.ntmps66
  go_wp2
  go_ret
  exact HF.out
set_option maxHeartbeats 1000000 in
theorem following_any (a : Int) (w : World) : Calls Tryd.prog 53 #[.int .i64 a] w (RS1 Ints.cells 1 w (nextI a)) := by
  have fin : ∀ (l : List Int) (cs : Array Value), nextI a = l → cs = (l.map (Value.int .i64)).toArray → ∀ W, W = w.alloc (.cells cs 3) → RS1 Ints.cells 1 w (nextI a) (.returned (.slice (some ⟨w.heap.size, 0, none⟩) l.length l.length)) W := by
    intro l cs hl hcs W hW
    subst hW
    rw [hl]
    exact ⟨_, _, rfl, ints_lit w l cs _ _ rfl hcs, Nat.le_refl _, (Below.refl _ _).alloc (Nat.le_refl _) _⟩
  by_cases h0 : a = 0
  · subst h0
    have HF := Lib.hid (fin _ _ rfl rfl _ rfl)
    clear fin
    go_enter Tryd.func53, Tryd.ntmps53
    go_wp2
    go_ret
    exact HF.out
  by_cases h1 : a = 1
  · subst h1
    have HF := Lib.hid (fin _ _ rfl rfl _ rfl)
    clear fin
    go_enter Tryd.func53, Tryd.ntmps53
    go_wp2
    go_ret
    exact HF.out
  by_cases h2 : a = 2
  · subst h2
    have HF := Lib.hid (fin _ _ rfl rfl _ rfl)
    clear fin
    go_enter Tryd.func53, Tryd.ntmps53
    go_wp2
    go_ret
    exact HF.out
  by_cases h3 : a = 3
  · subst h3
    have HF := Lib.hid (fin _ _ rfl rfl _ rfl)
    clear fin
    go_enter Tryd.func53, Tryd.ntmps53
    go_wp2
    go_ret
    exact HF.out
  by_cases h4 : a = 4
  · subst h4
    have HF := Lib.hid (fin _ _ rfl rfl _ rfl)
    clear fin
    go_enter Tryd.func53, Tryd.ntmps53
    go_wp2
    go_ret
    exact HF.out
  have HF := Lib.hid (fin [0] _ (by unfold nextI; simp [h0, h1, h2, h3, h4]) rfl _ rfl)
  have k0 : (a == 0) = false := by simpa using h0
  have k1 : (a == 1) = false := by simpa using h1
  have k2 : (a == 2) = false := by simpa using h2
  have k3 : (a == 3) = false := by simpa using h3
  have k4 : (a == 4) = false := by simpa using h4
  clear fin h0 h1 h2 h3 h4
  go_enter Tryd.func53, Tryd.ntmps53
  go_wp2
  go_ret
  exact HF.out
theorem l1Has_any (A : Option Addr) (c lo hi : Nat) (l : List Int) (x : Int) (w : World) (hl : l.length ≤ 1048576) (hS : Ints w lo hi A l) : Calls Tryd.prog 65 #[.slice A l.length c, .int .i64 x] w (RV w (.bool (decide (x ∈ l)))) := by
  go_enter Tryd.func65, Tryd.ntmps65
  go_wp2_with fail
  go_loopw [9] (fun i wr => ∃ k : Nat, k ≤ l.length ∧ i = .int .i64 k ∧ Hid (x ∉ l.take k) ∧ Below w.heap.size w wr) (fun i _ => l.length - (intOf i).toNat)
  case atStart => exact ⟨0, Nat.zero_le _, rfl, Lib.hid (by simp), Below.refl _ _⟩
  case round =>
    obtain ⟨k, hk, rfl, HF, hB⟩ := hrel
    by_cases hlt : k < l.length
    · obtain ⟨y, hy, hym⟩ := get_lt hlt
      obtain ⟨b, off, rfl, _, _, _, c0, _⟩ := Ints.at1 (hS.below hB) hy
      by_cases hq : y = x
      · subst hq
        have HT : Hid (decide (y ∈ l) = true) := Lib.hid (by simpa using hym)
        clear HF hy hym
        go_wp2
        go_ret
        exact RV.mk (by rw [HT.out]; rfl) hB
      · have hq' : (y == x) = false := by simpa using hq
        have HT : Hid (x ∉ l.take (k + 1)) := Lib.hid (by
          rw [take_snoc hy, List.mem_append, List.mem_singleton]
          rintro (h | h)
          · exact HF.out h
          · exact hq h.symm)
        clear HF hy hym hq
        go_wp2
        go_roundw
        case rel => exact ⟨k + 1, by omega, by go_num, HT, hB⟩
        case measure => simp [intOf]; omega
    · have HT : Hid (decide (x ∈ l) = false) := Lib.hid (by have := HF.out; rw [List.take_of_length_le (by omega)] at this; simpa using this)
      clear HF
      go_wp2
      go_ret
      exact RV.mk (by rw [HT.out]; rfl) hB
theorem apMay_any (a b : Int) (w : World) : Calls Tryd.prog 46 #[.int .i64 a, .int .i64 b] w (RV w (.bool (mayB a b))) := by
  go_enter Tryd.func46, Tryd.ntmps46
  go_wp2_with fail
  refine (apNext_any a _).mono ?_
  rintro e w1 ⟨A, c, rfl, hS, _, hb⟩
  go_wp2_with fail
  refine (l1Has_any A c _ _ (nextL a) b _ (Nat.le_trans (nextL_len a) (by omega)) hS).mono ?_
  rintro e w2 ⟨rfl, hb2⟩
  have hB := Below.on' hb hb2
  go_wp2
  go_ret
  exact RV.mk rfl hB
set_option maxHeartbeats 1000000 in
theorem apFind_any (A : Option Addr) (c : Nat) (l : List App) (nm : ByteArray) (w : World) (hl : l.length ≤ 1048576) (hS : Apps w 0 w.heap.size A l) : Calls Tryd.prog 43 #[.slice A l.length c, .string nm] w (RV w (.int .i64 (idxG (fun a => decide (a.nm.toList = nm.toList)) l 0))) := by
  go_enter Tryd.func43, Tryd.ntmps43
  go_wp2_with fail
  go_loopw [9] (fun i wr => ∃ k : Nat, k ≤ l.length ∧ i = .int .i64 k ∧ Hid (idxG (fun a : App => decide (a.nm.toList = nm.toList)) (l.drop k) k = idxG (fun a : App => decide (a.nm.toList = nm.toList)) l 0) ∧ Below w.heap.size w wr) (fun i _ => l.length - (intOf i).toNat)
  case atStart => exact ⟨0, Nat.zero_le _, rfl, Lib.hid rfl, Below.refl _ _⟩
  case round =>
    obtain ⟨k, hk, rfl, HF, hB⟩ := hrel
    by_cases hlt : k < l.length
    · obtain ⟨a, hx, _⟩ := get_lt hlt
      have HC := Lib.hid (idxG_step (p := fun a : App => decide (a.nm.toList = nm.toList)) hx)
      obtain ⟨b, off, rfl, _, _, _, hf⟩ := (hS.below hB).at_ hx
      have c0 : wr.cell? ⟨b, off + k * 5, none⟩ = some (.string a.nm) := (hf 0 _ rfl).1
      have c1 : wr.cell? ⟨b, off + k * 5 + 1, none⟩ = some (.int .i64 a.kd) := (hf 1 _ rfl).1
      have c2 : wr.cell? ⟨b, off + k * 5 + 2, none⟩ = some (.int .i64 a.nd) := (hf 2 _ rfl).1
      have c3 : wr.cell? ⟨b, off + k * 5 + 3, none⟩ = some (.int .i64 a.cw) := (hf 3 _ rfl).1
      have c4 : wr.cell? ⟨b, off + k * 5 + 4, none⟩ = some (.int .i64 a.st) := (hf 4 _ rfl).1
      have hBa : Below w.heap.size w (wr.alloc (.cells #[.string a.nm, .int .i64 a.kd, .int .i64 a.nd, .int .i64 a.cw, .int .i64 a.st] 75)) := by go_grown
      clear hf hx
      by_cases hq : a.nm.toList = nm.toList
      · have HQ := Lib.hid (HC.out.trans (if_pos (by simpa using hq)))
        clear HC
        go_wp2
        go_ret
        exact RV.mk (by rw [← HF.out, HQ.out]; rfl) hBa
      · have HQ := Lib.hid (HC.out.trans (if_neg (by simpa using hq)))
        have hq' : (a.nm.toList == nm.toList) = false := by simpa using hq
        clear HC hq
        go_wp2
        go_roundw
        case rel => exact ⟨k + 1, by omega, by go_num, Lib.hid (HQ.out.symm.trans HF.out), hBa⟩
        case measure => simp [intOf]; omega
    · have hd : l.drop k = [] := List.drop_of_length_le (by omega)
      have HE : Hid ((-1 : Int) = idxG (fun a : App => decide (a.nm.toList = nm.toList)) l 0) := Lib.hid (by have := HF.out; rw [hd] at this; exact this)
      clear hd HF
      go_wp2
      go_ret
      exact RV.mk (by rw [← HE.out]; rfl) hB
theorem sentS_snoc {s : List Msg} {k : Nat} {m : Msg} (h : s[k]? = some m) (nm : ByteArray) : sentS (s.take (k + 1)) nm = if m.f.toList = nm.toList then sentS (s.take k) nm ++ [stF m.b] else sentS (s.take k) nm := by
  unfold sentS
  rw [take_snoc h, List.filter_append, List.map_append]
  by_cases hq : m.f.toList = nm.toList <;> simp [hq]
set_option maxHeartbeats 2000000 in
theorem stSent_any (As : Option Addr) (cs : Nat) (s : List Msg) (vr vh : Value) (nm : ByteArray) (w : World) (hls : s.length ≤ 1048576) (hSs : Msgs w 0 w.heap.size As s) : Calls Tryd.prog 45 #[.agg #[.slice As s.length cs, vr, vh], .string nm] w (RS1 Ints.cells 1 w (sentS s nm)) := by
  obtain ⟨i0, hi0, hz0, hz1, hz2⟩ := info_parts Ints.info
  have hB1 : Below w.heap.size w (w.alloc (.cells #[.slice As s.length cs, vr, vh] 39)) := (Below.refl _ _).alloc (Nat.le_refl _) _
  have hzz := hB1.size
  go_enter Tryd.func45, Tryd.ntmps45
  go_wp2_with fail
  go_loopw [5, 11] (fun o i wr => ∃ (k : Nat) (A : Option Addr) (c : Nat) (r : List Int), k ≤ s.length ∧ i = .int .i64 k ∧ o = .slice A r.length c ∧ r.length ≤ k ∧ Own Ints.cells 1 3 wr w.heap.size A c r ∧ Hid (r = sentS (s.take k) nm) ∧ Below w.heap.size w wr) (fun _ i _ => s.length - (intOf i).toNat)
  case atStart => exact ⟨0, none, 0, [], Nat.zero_le _, rfl, rfl, Nat.zero_le _, Own.nil_, Lib.hid rfl, hB1⟩
  case round =>
    obtain ⟨k, A, c, r, hk, rfl, rfl, hr, hO, HF, hB⟩ := hrel
    have hz := hB.size
    by_cases hlt : k < s.length
    · obtain ⟨m, hx, _⟩ := get_lt hlt
      have HC := Lib.hid (sentS_snoc hx nm)
      obtain ⟨b, off, rfl, _, _, _, hf⟩ := (hSs.below hB).at_ hx
      have c0 : wr.cell? ⟨b, off + k * 3, none⟩ = some (.string m.f) := (hf 0 _ rfl).1
      have c1 : wr.cell? ⟨b, off + k * 3 + 1, none⟩ = some (.int .i64 m.n) := (hf 1 _ rfl).1
      have c2 : wr.cell? ⟨b, off + k * 3 + 2, none⟩ = some (.string m.b) := (hf 2 _ rfl).1
      have hBa : Below w.heap.size w (wr.alloc (.cells #[.string m.f, .int .i64 m.n, .string m.b] 23)) := by go_grown
      have hOa := hO.alloc (.cells #[.string m.f, .int .i64 m.n, .string m.b] 23)
      clear hf hx
      by_cases hq : m.f.toList = nm.toList
      · have HQ := Lib.hid (HC.out.trans (if_pos hq))
        clear HC
        go_wp2_with fail
        refine (stParse_any m.b _).mono ?_
        rintro e w2 ⟨v, rfl, HS, hb⟩
        have hB2 := Below.on' hBa hb
        have hO2 := hOa.below hb
        have hz2s := hB2.size
        have HV : Hid (v = stF m.b) := Lib.hid (stF_of HS.out)
        clear hb hO hOa HS c0 c1 c2
        go_wp2_with (at_builtin; refine wpList_append_one _ rfl (.tmp 19) (.tmp 23) _ rfl i0 _ _ Tryd.underlying76 hi0 hz0 hz1 hz2 rfl (by omega) Ints.len Ints.one v _ (hO2.alloc _) rfl rfl (new_cells _ _ _ _ rfl) (by unfold maxLen; omega) (by omega) (by simp; omega) ?_; intro A2 c2 wb L hL hO3 hb2)
        have hlen : L.length = r.length + 1 := by rw [hL.out]; simp
        have hlen2 : L.length ≤ k + 1 := by omega
        clear hlen
        have hBc : Below w.heap.size w wb := Below.trans (by go_grown) hb2
        clear hb2 hO2
        go_roundw
        case rel => exact ⟨k + 1, A2, c2, L, by omega, by go_num, rfl, hlen2, hO3, Lib.hid (by rw [hL.out, HQ.out, HF.out, HV.out]), hBc⟩
        case measure => simp [intOf]; omega
      · have HQ := Lib.hid (HC.out.trans (if_neg hq))
        have hq' : (m.f.toList == nm.toList) = false := by simpa using hq
        clear HC hq
        go_wp2
        go_roundw
        case rel => exact ⟨k + 1, A, c, r, by omega, by go_num, rfl, by omega, hOa, Lib.hid (by rw [HQ.out, HF.out]), hBa⟩
        case measure => simp [intOf]; omega
    · have HE : Hid (sentS s nm = r) := Lib.hid (by rw [HF.out, List.take_of_length_le (by omega)])
      clear HF hi0 hz0 hz1 hz2
      go_wp2
      go_ret
      exact RS1.own HE.out rfl Ints.len hO hB
end Go.Proofs.YtianabfehonliaaDoor

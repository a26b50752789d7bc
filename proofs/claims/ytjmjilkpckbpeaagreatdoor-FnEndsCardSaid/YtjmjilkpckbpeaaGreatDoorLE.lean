/- Several texts of this seat, one behind the other. Ends: the small functions, both sides. Conditions: lists and texts of at most 2^20; the listed variables as Said has them. Both ends, as the reference tests them. Conditions: at most 2^20 in each list, texts of at most 2^20. Both ends, as the program tests them. Conditions: at most 2^20 in each list, texts of at most 2^20, the listed variables as Said has them. AreEnds, as the program and the reference give it out. Conditions: as XEndC has them. -/
import Derived.Test.YtjmjilkpckbpeaaGreatDoorLR
import Derived.Test.YtjmjilkpckbpeaaGreatDoorLA
import Derived.Test.YtjmjilkpckbpeaaGreatDoorLC
import Derived.Test.YtjmjilkpckbpeaaGreatDoorLF
import Derived.Test.YtjmjilkpckbpeaaGreatDoorLD
import Derived.Maps.OwnSet
namespace Go.Proofs.YtjmjilkpckbpeaaGreatDoor
open Go.RowKit

theorem ints_lit (w : World) (l : List Int) (cs : Array Value) (T : TypeId) (n : Nat) (hn : n = w.heap.size) (hcs : cs = (l.map (Value.int .i64)).toArray) : Ints (w.alloc (.cells cs T)) w.heap.size (w.alloc (.cells cs T)).heap.size (some ⟨n, 0, none⟩) l := fun _ => by
  subst hn hcs
  refine ⟨w.heap.size, 0, rfl, Nat.le_refl _, by simp, Nat.le_refl _, fun i x hx j v hv => ?_⟩
  have hj : j = 0 := by have := (List.getElem?_eq_some_iff.1 hv).1; simp [Ints.cells] at this; omega
  subst hj
  have hv' : v = .int .i64 x := by simpa [Ints.cells] using hv.symm
  subst hv'
  refine ⟨?_, World.frozen?_alloc_at _ _ _ _ rfl⟩
  rw [World.cell?_alloc_at _ _ _ _ rfl]
  simp [hx]
/-- As the program lists them. -/
def nextI (a : Int) : List Int := if a = 0 then [1, 5] else if a = 1 then [2, 0] else if a = 2 then [3, 4] else if a = 3 then [4] else if a = 4 then [0, 1, 5] else [0]
theorem nextI_may (a b : Int) : (nextI a).contains b = mayB a b := by
  rw [Bool.eq_iff_iff, List.contains_iff_mem, mayB, decide_eq_true_eq, nextI, nextL]
  repeat' split
  all_goals simp [or_comm]
theorem nextL_len (a : Int) : (nextL a).length ≤ 3 := by unfold nextL; (repeat' split) <;> simp
theorem nextI_len (a : Int) : (nextI a).length ≤ 3 := by unfold nextI; (repeat' split) <;> simp
set_option maxHeartbeats 1000000 in
theorem apNext_any (a : Int) (w : World) : Calls Tryz.prog 97 #[.int .i64 a] w (RS1 Ints.cells 1 w (nextL a)) := by
  have fin : ∀ (l : List Int) (cs : Array Value), nextL a = l → cs = (l.map (Value.int .i64)).toArray → ∀ W, W = w.alloc (.cells cs 3) → RS1 Ints.cells 1 w (nextL a) (.returned (.slice (some ⟨w.heap.size, 0, none⟩) l.length l.length)) W := by
    intro l cs hl hcs W hW
    subst hW
    rw [hl]
    exact ⟨_, _, rfl, ints_lit w l cs _ _ rfl hcs, Nat.le_refl _, (Below.refl _ _).alloc (Nat.le_refl _) _⟩
  by_cases h0 : a = 0
  · subst h0
    have HF := Lib.hid (fin _ _ rfl rfl _ rfl)
    clear fin
    go_enter Tryz.func97, Tryz.ntmps97
    go_wp2
    go_ret
    exact HF.out
  by_cases h1 : a = 1
  · subst h1
    have HF := Lib.hid (fin _ _ rfl rfl _ rfl)
    clear fin
    go_enter Tryz.func97, Tryz.ntmps97
    go_wp2
    go_ret
    exact HF.out
  by_cases h2 : a = 2
  · subst h2
    have HF := Lib.hid (fin _ _ rfl rfl _ rfl)
    clear fin
    go_enter Tryz.func97, Tryz.ntmps97
    go_wp2
    go_ret
    exact HF.out
  by_cases h3 : a = 3
  · subst h3
    have HF := Lib.hid (fin _ _ rfl rfl _ rfl)
    clear fin
    go_enter Tryz.func97, Tryz.ntmps97
    go_wp2
    go_ret
    exact HF.out
  by_cases h4 : a = 4
  · subst h4
    have HF := Lib.hid (fin _ _ rfl rfl _ rfl)
    clear fin
    go_enter Tryz.func97, Tryz.ntmps97
    go_wp2
    go_ret
    exact HF.out
  have HF := Lib.hid (fin [0] _ (by unfold nextL; simp [h0, h1, h2, h3, h4]) rfl _ rfl)
  have k0 : (a == 0) = false := by simpa using h0
  have k1 : (a == 1) = false := by simpa using h1
  have k2 : (a == 2) = false := by simpa using h2
  have k3 : (a == 3) = false := by simpa using h3
  have k4 : (a == 4) = false := by simpa using h4
  clear fin h0 h1 h2 h3 h4
  go_enter Tryz.func97, Tryz.ntmps97
  go_wp2
  go_ret
  exact HF.out
set_option maxHeartbeats 1000000 in
theorem following_any (a : Int) (w : World) : Calls Tryz.prog 144 #[.int .i64 a] w (RS1 Ints.cells 1 w (nextI a)) := by
  have fin : ∀ (l : List Int) (cs : Array Value), nextI a = l → cs = (l.map (Value.int .i64)).toArray → ∀ W, W = w.alloc (.cells cs 3) → RS1 Ints.cells 1 w (nextI a) (.returned (.slice (some ⟨w.heap.size, 0, none⟩) l.length l.length)) W := by
    intro l cs hl hcs W hW
    subst hW
    rw [hl]
    exact ⟨_, _, rfl, ints_lit w l cs _ _ rfl hcs, Nat.le_refl _, (Below.refl _ _).alloc (Nat.le_refl _) _⟩
  by_cases h0 : a = 0
  · subst h0
    have HF := Lib.hid (fin _ _ rfl rfl _ rfl)
    clear fin
    go_enter Tryz.func144, Tryz.ntmps144
    go_wp2
    go_ret
    exact HF.out
  by_cases h1 : a = 1
  · subst h1
    have HF := Lib.hid (fin _ _ rfl rfl _ rfl)
    clear fin
    go_enter Tryz.func144, Tryz.ntmps144
    go_wp2
    go_ret
    exact HF.out
  by_cases h2 : a = 2
  · subst h2
    have HF := Lib.hid (fin _ _ rfl rfl _ rfl)
    clear fin
    go_enter Tryz.func144, Tryz.ntmps144
    go_wp2
    go_ret
    exact HF.out
  by_cases h3 : a = 3
  · subst h3
    have HF := Lib.hid (fin _ _ rfl rfl _ rfl)
    clear fin
    go_enter Tryz.func144, Tryz.ntmps144
    go_wp2
    go_ret
    exact HF.out
  by_cases h4 : a = 4
  · subst h4
    have HF := Lib.hid (fin _ _ rfl rfl _ rfl)
    clear fin
    go_enter Tryz.func144, Tryz.ntmps144
    go_wp2
    go_ret
    exact HF.out
  have HF := Lib.hid (fin [0] _ (by unfold nextI; simp [h0, h1, h2, h3, h4]) rfl _ rfl)
  have k0 : (a == 0) = false := by simpa using h0
  have k1 : (a == 1) = false := by simpa using h1
  have k2 : (a == 2) = false := by simpa using h2
  have k3 : (a == 3) = false := by simpa using h3
  have k4 : (a == 4) = false := by simpa using h4
  clear fin h0 h1 h2 h3 h4
  go_enter Tryz.func144, Tryz.ntmps144
  go_wp2
  go_ret
  exact HF.out
theorem l1Has_any (A : Option Addr) (c lo hi : Nat) (l : List Int) (x : Int) (w : World) (hl : l.length ≤ 1048576) (hS : Ints w lo hi A l) : Calls Tryz.prog 160 #[.slice A l.length c, .int .i64 x] w (RV w (.bool (decide (x ∈ l)))) := by
  go_enter Tryz.func160, Tryz.ntmps160
  go_wp2_with fail
  go_loopw [9] (fun i wr => ∃ k : Nat, k ≤ l.length ∧ i = .int .i64 k ∧ Hid (x ∉ l.take k) ∧ Below w.heap.size w wr) (fun i _ => l.length - (intOf i).toNat)
  case atStart => exact ⟨0, Nat.zero_le _, rfl, Lib.hid (by simp), Below.refl _ _⟩
  case round =>
    obtain ⟨k, hk, rfl, HF, hB⟩ := hrel
    by_cases hlt : k < l.length
    · obtain ⟨y, hy, hym⟩ := get_lt hlt
      obtain ⟨b, off, rfl, _, _, _, c0, _⟩ := Ints.at1 (hS.below hB) hy
      by_cases hq : y = x
      · subst hq
        have HT : Hid (decide (y ∈ l) = true) := Lib.hid (by simpa using hym)
        clear HF hy hym
        go_wp2
        go_ret
        exact RV.mk (by rw [HT.out]; rfl) hB
      · have hq' : (y == x) = false := by simpa using hq
        have HT : Hid (x ∉ l.take (k + 1)) := Lib.hid (by
          rw [take_snoc hy, List.mem_append, List.mem_singleton]
          rintro (h | h)
          · exact HF.out h
          · exact hq h.symm)
        clear HF hy hym hq
        go_wp2
        go_roundw
        case rel => exact ⟨k + 1, by omega, by go_num, HT, hB⟩
        case measure => simp [intOf]; omega
    · have HT : Hid (decide (x ∈ l) = false) := Lib.hid (by have := HF.out; rw [List.take_of_length_le (by omega)] at this; simpa using this)
      clear HF
      go_wp2
      go_ret
      exact RV.mk (by rw [HT.out]; rfl) hB
theorem apMay_any (a b : Int) (w : World) : Calls Tryz.prog 145 #[.int .i64 a, .int .i64 b] w (RV w (.bool (mayB a b))) := by
  go_enter Tryz.func145, Tryz.ntmps145
  go_wp2_with fail
  refine (apNext_any a _).mono ?_
  rintro e w1 ⟨A, c, rfl, hS, _, hb⟩
  go_wp2_with fail
  refine (l1Has_any A c _ _ (nextL a) b _ (Nat.le_trans (nextL_len a) (by omega)) hS).mono ?_
  rintro e w2 ⟨rfl, hb2⟩
  have hB := Below.on' hb hb2
  go_wp2
  go_ret
  exact RV.mk rfl hB
set_option maxHeartbeats 1000000 in
theorem apFind_any (A : Option Addr) (c : Nat) (l : List App) (nm : ByteArray) (w : World) (hl : l.length ≤ 1048576) (hS : Apps w 0 w.heap.size A l) : Calls Tryz.prog 122 #[.slice A l.length c, .string nm] w (RV w (.int .i64 (idxG (fun a => decide (a.nm.toList = nm.toList)) l 0))) := by
  go_enter Tryz.func122, Tryz.ntmps122
  go_wp2_with fail
  go_loopw [9] (fun i wr => ∃ k : Nat, k ≤ l.length ∧ i = .int .i64 k ∧ Hid (idxG (fun a : App => decide (a.nm.toList = nm.toList)) (l.drop k) k = idxG (fun a : App => decide (a.nm.toList = nm.toList)) l 0) ∧ Below w.heap.size w wr) (fun i _ => l.length - (intOf i).toNat)
  case atStart => exact ⟨0, Nat.zero_le _, rfl, Lib.hid rfl, Below.refl _ _⟩
  case round =>
    obtain ⟨k, hk, rfl, HF, hB⟩ := hrel
    by_cases hlt : k < l.length
    · obtain ⟨a, hx, _⟩ := get_lt hlt
      have HC := Lib.hid (idxG_step (p := fun a : App => decide (a.nm.toList = nm.toList)) hx)
      obtain ⟨b, off, rfl, _, _, _, hf⟩ := (hS.below hB).at_ hx
      have c0 : wr.cell? ⟨b, off + k * 5, none⟩ = some (.string a.nm) := (hf 0 _ rfl).1
      have c1 : wr.cell? ⟨b, off + k * 5 + 1, none⟩ = some (.int .i64 a.kd) := (hf 1 _ rfl).1
      have c2 : wr.cell? ⟨b, off + k * 5 + 2, none⟩ = some (.int .i64 a.nd) := (hf 2 _ rfl).1
      have c3 : wr.cell? ⟨b, off + k * 5 + 3, none⟩ = some (.int .i64 a.cw) := (hf 3 _ rfl).1
      have c4 : wr.cell? ⟨b, off + k * 5 + 4, none⟩ = some (.int .i64 a.st) := (hf 4 _ rfl).1
      have hBa : Below w.heap.size w (wr.alloc (.cells #[.string a.nm, .int .i64 a.kd, .int .i64 a.nd, .int .i64 a.cw, .int .i64 a.st] 73)) := by go_grown
      clear hf hx
      by_cases hq : a.nm.toList = nm.toList
      · have HQ := Lib.hid (HC.out.trans (if_pos (by simpa using hq)))
        clear HC
        go_wp2
        go_ret
        exact RV.mk (by rw [← HF.out, HQ.out]; rfl) hBa
      · have HQ := Lib.hid (HC.out.trans (if_neg (by simpa using hq)))
        have hq' : (a.nm.toList == nm.toList) = false := by simpa using hq
        clear HC hq
        go_wp2
        go_roundw
        case rel => exact ⟨k + 1, by omega, by go_num, Lib.hid (HQ.out.symm.trans HF.out), hBa⟩
        case measure => simp [intOf]; omega
    · have hd : l.drop k = [] := List.drop_of_length_le (by omega)
      have HE : Hid ((-1 : Int) = idxG (fun a : App => decide (a.nm.toList = nm.toList)) l 0) := Lib.hid (by have := HF.out; rw [hd] at this; exact this)
      clear hd HF
      go_wp2
      go_ret
      exact RV.mk (by rw [← HE.out]; rfl) hB
theorem sentS_snoc {s : List Msg} {k : Nat} {m : Msg} (h : s[k]? = some m) (nm : ByteArray) : sentS (s.take (k + 1)) nm = if m.f.toList = nm.toList then sentS (s.take k) nm ++ [stF m.b] else sentS (s.take k) nm := by
  unfold sentS
  rw [take_snoc h, List.filter_append, List.map_append]
  by_cases hq : m.f.toList = nm.toList <;> simp [hq]
set_option maxHeartbeats 2000000 in
theorem stSent_any (As : Option Addr) (cs : Nat) (s : List Msg) (vr vh : Value) (nm : ByteArray) (w : World) (hls : s.length ≤ 1048576) (hSs : Msgs w 0 w.heap.size As s) : Calls Tryz.prog 124 #[.agg #[.slice As s.length cs, vr, vh], .string nm] w (RS1 Ints.cells 1 w (sentS s nm)) := by
  obtain ⟨i0, hi0, hz0, hz1, hz2⟩ := info_parts Ints.info
  have hB1 : Below w.heap.size w (w.alloc (.cells #[.slice As s.length cs, vr, vh] 26)) := (Below.refl _ _).alloc (Nat.le_refl _) _
  have hzz := hB1.size
  go_enter Tryz.func124, Tryz.ntmps124
  go_wp2_with fail
  go_loopw [5, 11] (fun o i wr => ∃ (k : Nat) (A : Option Addr) (c : Nat) (r : List Int), k ≤ s.length ∧ i = .int .i64 k ∧ o = .slice A r.length c ∧ r.length ≤ k ∧ Own Ints.cells 1 3 wr w.heap.size A c r ∧ Hid (r = sentS (s.take k) nm) ∧ Below w.heap.size w wr) (fun _ i _ => s.length - (intOf i).toNat)
  case atStart => exact ⟨0, none, 0, [], Nat.zero_le _, rfl, rfl, Nat.zero_le _, Own.nil_, Lib.hid rfl, hB1⟩
  case round =>
    obtain ⟨k, A, c, r, hk, rfl, rfl, hr, hO, HF, hB⟩ := hrel
    have hz := hB.size
    by_cases hlt : k < s.length
    · obtain ⟨m, hx, _⟩ := get_lt hlt
      have HC := Lib.hid (sentS_snoc hx nm)
      obtain ⟨b, off, rfl, _, _, _, hf⟩ := (hSs.below hB).at_ hx
      have c0 : wr.cell? ⟨b, off + k * 3, none⟩ = some (.string m.f) := (hf 0 _ rfl).1
      have c1 : wr.cell? ⟨b, off + k * 3 + 1, none⟩ = some (.int .i64 m.n) := (hf 1 _ rfl).1
      have c2 : wr.cell? ⟨b, off + k * 3 + 2, none⟩ = some (.string m.b) := (hf 2 _ rfl).1
      have hBa : Below w.heap.size w (wr.alloc (.cells #[.string m.f, .int .i64 m.n, .string m.b] 33)) := by go_grown
      have hOa := hO.alloc (.cells #[.string m.f, .int .i64 m.n, .string m.b] 33)
      clear hf hx
      by_cases hq : m.f.toList = nm.toList
      · have HQ := Lib.hid (HC.out.trans (if_pos hq))
        clear HC
        go_wp2_with fail
        refine (stParse_any m.b _).mono ?_
        rintro e w2 ⟨v, rfl, HS, hb⟩
        have hB2 := Below.on' hBa hb
        have hO2 := hOa.below hb
        have hz2s := hB2.size
        have HV : Hid (v = stF m.b) := Lib.hid (stF_of HS.out)
        clear hb hO hOa HS c0 c1 c2
        go_wp2_with (at_builtin; refine wpList_append_one _ rfl (.tmp 19) (.tmp 23) _ rfl i0 _ _ Tryz.underlying90 hi0 hz0 hz1 hz2 rfl (by omega) Ints.len Ints.one v _ (hO2.alloc _) rfl rfl (new_cells _ _ _ _ rfl) (by unfold maxLen; omega) (by omega) (by simp; omega) ?_; intro A2 c2 wb L hL hO3 hb2)
        have hlen : L.length = r.length + 1 := by rw [hL.out]; simp
        have hlen2 : L.length ≤ k + 1 := by omega
        clear hlen
        have hBc : Below w.heap.size w wb := Below.trans (by go_grown) hb2
        clear hb2 hO2
        go_roundw
        case rel => exact ⟨k + 1, A2, c2, L, by omega, by go_num, rfl, hlen2, hO3, Lib.hid (by rw [hL.out, HQ.out, HF.out, HV.out]), hBc⟩
        case measure => simp [intOf]; omega
      · have HQ := Lib.hid (HC.out.trans (if_neg hq))
        have hq' : (m.f.toList == nm.toList) = false := by simpa using hq
        clear HC hq
        go_wp2
        go_roundw
        case rel => exact ⟨k + 1, A, c, r, by omega, by go_num, rfl, by omega, hOa, Lib.hid (by rw [HQ.out, HF.out]), hBa⟩
        case measure => simp [intOf]; omega
    · have HE : Hid (sentS s nm = r) := Lib.hid (by rw [HF.out, List.take_of_length_le (by omega)])
      clear HF hi0 hz0 hz1 hz2
      go_wp2
      go_ret
      exact RS1.own HE.out rfl Ints.len hO hB
end Go.Proofs.YtjmjilkpckbpeaaGreatDoor
namespace Go.Proofs.YtjmjilkpckbpeaaGreatDoor
open Go.RowKit

theorem sentS_len (s : List Msg) (nm : ByteArray) : (sentS s nm).length ≤ s.length := by
  unfold sentS
  rw [List.length_map]
  exact List.length_filter_le _ _
theorem chainF_append : ∀ (a b : List Int) (st : Int), chainF st (a ++ b) = (chainF st a).bind fun y => chainF y b
  | [], _, _ => rfl
  | x :: a, b, st => by
    rw [List.cons_append, chainF, chainF]
    by_cases h : mayB st x = true
    · rw [if_pos h, if_pos h]; exact chainF_append a b x
    · rw [if_neg h, if_neg h]; rfl
theorem chain_step {L : List Int} {k : Nat} {x st st0 : Int} (hx : L[k]? = some x) (hc : chainF st0 (L.take k) = some st) (hm : mayB st x = true) : chainF st0 (L.take (k + 1)) = some x := by
  rw [take_snoc hx, chainF_append, hc]
  show (if mayB st x = true then some x else none) = some x
  rw [if_pos hm]
theorem chain_no {L : List Int} {k : Nat} {x st st0 : Int} (hx : L[k]? = some x) (hc : chainF st0 (L.take k) = some st) (hm : mayB st x = false) : chainF st0 L = none := by
  have h : chainF st0 (L.take (k + 1)) = none := by
    rw [take_snoc hx, chainF_append, hc]
    show (if mayB st x = true then some x else none) = none
    rw [if_neg (by rw [hm]; exact Bool.false_ne_true)]
  rw [← List.take_append_drop (k + 1) L, chainF_append, h]; rfl
theorem endAt_eq {f n : List App} {s : List Msg} {i : Nat} {a b : App} (ha : f[i]? = some a) (hb : n[i]? = some b) : endAt f n s i = match chainF a.st (sentS s a.nm) with | some x => App.eqB (withSt a x) b | none => false := by
  simp only [endAt, ha, hb]; rfl
theorem App.neq (x y : App) (b : Bool) (h : App.eqB x y = !b) (w : World) : (binOp .neq 73 (.agg #[.string x.nm, .int .i64 x.kd, .int .i64 x.nd, .int .i64 x.cw, .int .i64 x.st]) (.agg #[.string y.nm, .int .i64 y.kd, .int .i64 y.nd, .int .i64 y.cw, .int .i64 y.st])).run Tryz.prog w = .ok (.bool b) w := by
  have e := App.eql x y w
  rw [run_eql_struct] at e
  rw [run_neq_struct]
  generalize (Op.equalIn 10000 73 (.agg #[.string x.nm, .int .i64 x.kd, .int .i64 x.nd, .int .i64 x.cw, .int .i64 x.st]) (.agg #[.string y.nm, .int .i64 y.kd, .int .i64 y.nd, .int .i64 y.cw, .int .i64 y.st])).run Tryz.prog w = R at e
  cases R with
  | ok v w' =>
    simp only [Result.andThen, Result.ok.injEq, Value.bool.injEq] at e ⊢
    obtain ⟨rfl, rfl⟩ := e
    simp [h]
  | _ => simp [Result.andThen] at e
theorem cells5.off {b : Nat} {v0 v1 v2 v3 v4 : Value} {X : World} (a : cells5 b v0 v1 v2 v3 v4 X) {p : Addr} (hp : p.block ≠ b) (v : Value) : cells5 b v0 v1 v2 v3 v4 (X.setCell p v) := ⟨unset a.1 hp, unset a.2.1 hp, unset a.2.2.1 hp, unset a.2.2.2.1 hp, unset a.2.2.2.2 hp⟩
set_option maxRecDepth 100000 in
set_option maxHeartbeats 8000000 in
theorem stGood_any (Af : Option Addr) (cf : Nat) (f : List App) (An : Option Addr) (cn : Nat) (n : List App) (As : Option Addr) (cs : Nat) (s : List Msg) (Ar : Option Addr) (cr : Nat) (r : List Msg) (Ah : Option Addr) (ch : Nat) (h : List Msg) (w : World) (hlf : f.length ≤ 1048576) (hmf : ∀ y ∈ f, y.nm.size ≤ 1048576) (hSf : Apps w 0 w.heap.size Af f) (hln : n.length ≤ 1048576) (hmn : ∀ y ∈ n, y.nm.size ≤ 1048576) (hSn : Apps w 0 w.heap.size An n) (hls : s.length ≤ 1048576) (hms : ∀ y ∈ s, y.f.size ≤ 1048576 ∧ y.b.size ≤ 1048576) (hSs : Msgs w 0 w.heap.size As s) (hcs : s.length ≤ cs) (hlr : r.length ≤ 1048576) (hmr : ∀ y ∈ r, y.f.size ≤ 1048576 ∧ y.b.size ≤ 1048576) (hSr : Msgs w 0 w.heap.size Ar r) (hcr : r.length ≤ cr) (hlh : h.length ≤ 1048576) (hmh : ∀ y ∈ h, y.f.size ≤ 1048576 ∧ y.b.size ≤ 1048576) (hSh : Msgs w 0 w.heap.size Ah h) (hch : h.length ≤ ch) :
    Calls Tryz.prog 106 #[.agg #[.slice Af f.length cf, .slice An n.length cn, .slice As s.length cs, .slice Ar r.length cr, .slice Ah h.length ch]] w (RV w (.bool (endsB f n s r h))) := by
  have hX := cells5.new w (.slice Af f.length cf) (.slice An n.length cn) (.slice As s.length cs) (.slice Ar r.length cr) (.slice Ah h.length ch) 52 _ rfl
  have hB : Below w.heap.size w (w.alloc (.cells #[.slice Af f.length cf, .slice An n.length cn, .slice As s.length cs, .slice Ar r.length cr, .slice Ah h.length ch] 52)) := by go_grown
  obtain ⟨b0, b1, b2, b3, b4⟩ := id hX
  go_enter Tryz.func106, Tryz.ntmps106
  go_wp2_with fail
  refine (apFleet_any Af cf f _ hlf hmf (hSf.below hB).all).mono ?_
  rintro e w1 ⟨rfl, hb⟩
  replace hX := hX.below hb
  replace hB := Below.on' hB hb
  clear b0 b1 b2 b3 b4 hb
  obtain ⟨b0, b1, b2, b3, b4⟩ := id hX
  by_cases g1 : fleetB f = true
  rotate_left
  · have g1 : fleetB f = false := by simpa using g1
    have HF : Hid (endsB f n s r h = false) := Lib.hid (by rw [endsB, g1]; rfl)
    rw [g1]
    go_wp2
    go_ret
    exact RV.mk (by rw [HF.out]; rfl) hB
  rw [g1]
  go_wp2_with fail
  refine (apFleet_any An cn n _ hln hmn (hSn.below hB).all).mono ?_
  rintro e w2 ⟨rfl, hb⟩
  replace hX := hX.below hb
  replace hB := Below.on' hB hb
  clear b0 b1 b2 b3 b4 hb
  obtain ⟨b0, b1, b2, b3, b4⟩ := id hX
  by_cases g2 : fleetB n = true
  rotate_left
  · have g2 : fleetB n = false := by simpa using g2
    have HF : Hid (endsB f n s r h = false) := Lib.hid (by rw [endsB, g1, g2]; rfl)
    rw [g2]
    go_wp2
    go_ret
    exact RV.mk (by rw [HF.out]; rfl) hB
  rw [g2]
  go_wp2_with fail
  refine (raGood_any As cs s Ar cr r Ah ch h _ hls hms (hSs.below hB).all hcs hlr hmr (hSr.below hB).all hcr hlh hmh (hSh.below hB).all hch).mono ?_
  rintro e w3 ⟨rfl, hb⟩
  replace hX := hX.below hb
  replace hB := Below.on' hB hb
  clear b0 b1 b2 b3 b4 hb
  obtain ⟨b0, b1, b2, b3, b4⟩ := id hX
  by_cases g3 : chanB s r h = true
  rotate_left
  · have g3 : chanB s r h = false := by simpa using g3
    have HF : Hid (endsB f n s r h = false) := Lib.hid (by rw [endsB, g1, g2, g3]; rfl)
    rw [g3]
    go_wp2
    go_ret
    exact RV.mk (by rw [HF.out]; rfl) hB
  rw [g3]
  by_cases g4 : f.length = n.length
  rotate_left
  · have g5 : ((f.length : Int) == (n.length : Int)) = false := by rw [beq_eq_false_iff_ne]; omega
    have HF : Hid (endsB f n s r h = false) := Lib.hid (by rw [endsB, g1, g2, g3, decide_eq_false g4]; rfl)
    clear g1 g2 g3
    go_wp2
    go_ret
    exact RV.mk (by rw [HF.out]; rfl) hB
  have H4 : Hid (endsB f n s r h = (s.all (knownB f) && (List.range f.length).all (endAt f n s))) := Lib.hid (by rw [endsB, g1, g2, g3, decide_eq_true g4]; simp)
  have hnl : n.length = f.length := g4.symm
  rw [hnl] at hX
  clear g1 g2 g3 g4 b0 b1 b2 b3 b4
  obtain ⟨b0, b1, b2, b3, b4⟩ := id hX
  go_wp2_with fail
  go_loopw [40] (fun i wr => ∃ k : Nat, k ≤ s.length ∧ i = .int .i64 k ∧ Hid ((s.take k).all (knownB f) = true) ∧ cells5 w.heap.size (.slice Af f.length cf) (.slice An f.length cn) (.slice As s.length cs) (.slice Ar r.length cr) (.slice Ah h.length ch) wr ∧ Below w.heap.size w wr) (fun i _ => s.length - (intOf i).toNat)
  case atStart => exact ⟨0, Nat.zero_le _, rfl, Lib.hid rfl, hX, hB⟩
  case round =>
    clear hX hB b0 b1 b2 b3 b4
    obtain ⟨k, hk, rfl, HK, hX, hB⟩ := hrel
    have hz := hB.size
    have hx0 := hX.lt
    obtain ⟨b0, b1, b2, b3, b4⟩ := id hX
    by_cases hlt : k < s.length
    · obtain ⟨⟨xf, xn, xb⟩, hx, hxM⟩ := get_lt hlt
      have HM := Lib.hid hxM
      have HT := Lib.hid (take_snoc hx)
      obtain ⟨b, off, rfl, _, _, _, hf⟩ := (hSs.below hB).at_ hx
      have c0 : wr.cell? ⟨b, off + k * 3, none⟩ = some (.string xf) := (hf 0 _ rfl).1
      have c1 : wr.cell? ⟨b, off + k * 3 + 1, none⟩ = some (.int .i64 xn) := (hf 1 _ rfl).1
      have c2 : wr.cell? ⟨b, off + k * 3 + 2, none⟩ = some (.string xb) := (hf 2 _ rfl).1
      have hBa : Below w.heap.size w (wr.alloc (.cells #[.string xf, .int .i64 xn, .string xb] 33)) := by go_grown
      have hY := B3.new wr (.string xf) (.int .i64 xn) (.string xb) 33 _ rfl
      have hXa := hX.alloc (.cells #[.string xf, .int .i64 xn, .string xb] 33)
      clear hf hxM hx
      go_wp2_with fail
      refine (apFind_any Af cf f xf _ hlf (hSf.below hBa).all).mono ?_
      rintro e w4 ⟨rfl, hb⟩
      replace hX := hXa.below hb
      replace hY := hY.below hb
      have hB4 := Below.on' hBa hb
      have HI := Lib.hid (idxG_any (fun a : App => decide (a.nm.toList = xf.toList)) f)
      generalize idxG (fun a : App => decide (a.nm.toList = xf.toList)) f 0 = I at HI
      clear b0 b1 b2 b3 b4 c0 c1 c2 hb hXa hBa
      obtain ⟨d0, d1, d2, _, _, _⟩ := id hY
      by_cases g5 : I < 0
      · have HF : Hid (endsB f n s r h = false) := Lib.hid (by
          have e1 : knownB f ⟨xf, xn, xb⟩ = false := by
            unfold knownB
            rw [← HI.out, decide_eq_false (by omega), Bool.false_and]
          have e2 : s.all (knownB f) = false := by
            rw [List.all_eq_false]
            exact ⟨_, HM.out, by rw [e1]; exact Bool.false_ne_true⟩
          rw [H4.out, e2]; rfl)
        clear HM HT HI HK
        go_wp2
        go_ret
        exact RV.mk (by rw [HF.out]; rfl) hB4
      · have g5' : 0 ≤ I := by omega
        go_wp2_with fail
        refine (stParse_any xb _).mono ?_
        rintro e w5 ⟨v, rfl, HS, hb⟩
        replace hX := hX.below hb
        have hB5 := Below.on' hB4 hb
        have HV : Hid (v = stF xb) := Lib.hid (stF_of HS.out)
        clear d0 d1 d2 hY hb HS
        by_cases g6 : v < 0
        · have HF : Hid (endsB f n s r h = false) := Lib.hid (by
            have e1 : knownB f ⟨xf, xn, xb⟩ = false := by
              unfold knownB
              rw [show decide (0 ≤ stF xb) = false from decide_eq_false (by rw [← HV.out]; omega), Bool.and_false]
            have e2 : s.all (knownB f) = false := by
              rw [List.all_eq_false]
              exact ⟨_, HM.out, by rw [e1]; exact Bool.false_ne_true⟩
            rw [H4.out, e2]; rfl)
          clear HM HT HI HK HV
          go_wp2
          go_ret
          exact RV.mk (by rw [HF.out]; rfl) hB5
        · have HK' : Hid ((s.take (k + 1)).all (knownB f) = true) := Lib.hid (by
            have e1 : knownB f ⟨xf, xn, xb⟩ = true := by
              unfold knownB
              rw [← HI.out, decide_eq_true g5', show decide (0 ≤ stF xb) = true from decide_eq_true (by rw [← HV.out]; omega)]; rfl
            rw [HT.out, List.all_append, HK.out]
            simpa using e1)
          clear HM HT HI HK HV
          go_wp2
          go_roundw
          case rel => exact ⟨k + 1, by omega, by go_num, HK', hX, hB5⟩
          case measure => simp [intOf]; omega
    · have HA : Hid (endsB f n s r h = (List.range f.length).all (endAt f n s)) := Lib.hid (by
        have := HK.out
        rw [List.take_of_length_le (by omega)] at this
        rw [H4.out, this, Bool.true_and])
      clear HK H4
      go_wp2_with fail
      go_loopw [60] (fun i wr => ∃ k : Nat, k ≤ f.length ∧ i = .int .i64 k ∧ Hid (∀ i, i < k → endAt f n s i = true) ∧ cells5 w.heap.size (.slice Af f.length cf) (.slice An f.length cn) (.slice As s.length cs) (.slice Ar r.length cr) (.slice Ah h.length ch) wr ∧ Below w.heap.size w wr) (fun i _ => f.length - (intOf i).toNat)
      case atStart => exact ⟨0, Nat.zero_le _, rfl, Lib.hid (fun i hi => absurd hi (Nat.not_lt_zero i)), hX, hB⟩
      case round =>
        clear hX hB b0 b1 b2 b3 b4 hz hlt hk hx0
        obtain ⟨k, hk, rfl, HK, hX, hB⟩ := hrel
        have hz := hB.size
        obtain ⟨b0, b1, b2, b3, b4⟩ := id hX
        by_cases hlt : k < f.length
        · obtain ⟨⟨an, ak, ad, ac, az⟩, ha, _⟩ := get_lt hlt
          obtain ⟨⟨bn, bk, bd, bc, bz⟩, hbn, _⟩ := get_lt (show k < n.length by omega)
          have HE := Lib.hid (endAt_eq (s := s) ha hbn)
          obtain ⟨p, o, rfl, _, _, _, hf⟩ := (hSf.below hB).at_ ha
          have c0 : wr.cell? ⟨p, o + k * 5, none⟩ = some (.string an) := (hf 0 _ rfl).1
          have c1 : wr.cell? ⟨p, o + k * 5 + 1, none⟩ = some (.int .i64 ak) := (hf 1 _ rfl).1
          have c2 : wr.cell? ⟨p, o + k * 5 + 2, none⟩ = some (.int .i64 ad) := (hf 2 _ rfl).1
          have c3 : wr.cell? ⟨p, o + k * 5 + 3, none⟩ = some (.int .i64 ac) := (hf 3 _ rfl).1
          have c4 : wr.cell? ⟨p, o + k * 5 + 4, none⟩ = some (.int .i64 az) := (hf 4 _ rfl).1
          clear hf
          obtain ⟨p', o', rfl, _, _, _, hf⟩ := (hSn.below hB).at_ hbn
          have c5 : wr.cell? ⟨p', o' + k * 5, none⟩ = some (.string bn) := (hf 0 _ rfl).1
          have c6 : wr.cell? ⟨p', o' + k * 5 + 1, none⟩ = some (.int .i64 bk) := (hf 1 _ rfl).1
          have c7 : wr.cell? ⟨p', o' + k * 5 + 2, none⟩ = some (.int .i64 bd) := (hf 2 _ rfl).1
          have c8 : wr.cell? ⟨p', o' + k * 5 + 3, none⟩ = some (.int .i64 bc) := (hf 3 _ rfl).1
          have c9 : wr.cell? ⟨p', o' + k * 5 + 4, none⟩ = some (.int .i64 bz) := (hf 4 _ rfl).1
          clear hf ha hbn
          have hp := World.block_lt_of_cell? _ _ c0
          have hp' := World.block_lt_of_cell? _ _ c5
          have hx0 := hX.lt
          have hBa : Below w.heap.size w ((wr.alloc (.cells #[.string an, .int .i64 ak, .int .i64 ad, .int .i64 ac, .int .i64 az] 73)).alloc (.cells #[.string bn, .int .i64 bk, .int .i64 bd, .int .i64 bc, .int .i64 bz] 73)) := by go_grown
          have hX2 := (hX.alloc (.cells #[.string an, .int .i64 ak, .int .i64 ad, .int .i64 ac, .int .i64 az] 73)).alloc (.cells #[.string bn, .int .i64 bk, .int .i64 bd, .int .i64 bc, .int .i64 bz] 73)
          have hY : BN wr.heap.size [.string an, .int .i64 ak, .int .i64 ad, .int .i64 ac, .int .i64 az] ((wr.alloc (.cells #[.string an, .int .i64 ak, .int .i64 ad, .int .i64 ac, .int .i64 az] 73)).alloc (.cells #[.string bn, .int .i64 bk, .int .i64 bd, .int .i64 bc, .int .i64 bz] 73)) := (BN.new wr #[.string an, .int .i64 ak, .int .i64 ad, .int .i64 ac, .int .i64 az] 73 _ rfl).upto (B := wr.heap.size + 1) (Nat.lt_succ_self _) ((Below.refl _ _).alloc (by simp) _)
          have hZ : BN (wr.heap.size + 1) [.string bn, .int .i64 bk, .int .i64 bd, .int .i64 bc, .int .i64 bz] ((wr.alloc (.cells #[.string an, .int .i64 ak, .int .i64 ad, .int .i64 ac, .int .i64 az] 73)).alloc (.cells #[.string bn, .int .i64 bk, .int .i64 bd, .int .i64 bc, .int .i64 bz] 73)) := BN.new _ #[.string bn, .int .i64 bk, .int .i64 bd, .int .i64 bc, .int .i64 bz] 73 _ (by simp)
          have hset : ∀ W v, Below w.heap.size w W → Below w.heap.size w (W.setCell ⟨wr.heap.size, 4, none⟩ v) := fun W v hW => by go_grown
          have hoff : ∀ W v, cells5 w.heap.size (.slice (some ⟨p, o, none⟩) f.length cf) (.slice (some ⟨p', o', none⟩) f.length cn) (.slice As s.length cs) (.slice Ar r.length cr) (.slice Ah h.length ch) W → cells5 w.heap.size (.slice (some ⟨p, o, none⟩) f.length cf) (.slice (some ⟨p', o', none⟩) f.length cn) (.slice As s.length cs) (.slice Ar r.length cr) (.slice Ah h.length ch) (W.setCell ⟨wr.heap.size, 4, none⟩ v) := fun W v hW => hW.off (by simp; omega) v
          go_wp2_with fail
          refine (stSent_any As cs s _ _ an _ hls (hSs.below hBa).all).mono ?_
          rintro e w4 ⟨AL, cL, rfl, hL, _, hb⟩
          have hLl := sentS_len s an
          generalize sentS s an = L at HE hL hLl
          have hB4 := Below.on' hBa hb
          have hX4 := hX2.below hb
          have hY4 := hY.upto (by simp; omega) hb
          have hZ4 := hZ.upto (by simp) hb
          have hw4 : wr.heap.size + 2 ≤ w4.heap.size := by have := hb.size; simp at this; omega
          clear c0 c1 c2 c3 c4 c5 c6 c7 c8 c9 hb hX2 hY hZ b0 b1 b2 b3 b4 hBa
          obtain ⟨b0, b1, b2, b3, b4⟩ := id hX4
          go_wp2_with fail
          go_loopw [8, 78] (fun v i wx => ∃ (q : Nat) (st : Int), q ≤ L.length ∧ v = .int .i64 st ∧ i = .int .i64 q ∧ Hid (chainF az (L.take q) = some st) ∧ Below w4.heap.size w4 wx) (fun _ i _ => L.length - (intOf i).toNat)
          case atStart => exact ⟨0, az, Nat.zero_le _, rfl, rfl, Lib.hid rfl, Below.refl _ _⟩
          case round =>
            obtain ⟨q, st, hq, rfl, rfl, HC, hBx⟩ := hrel
            clear b0 b1 b2 b3 b4
            have hB5 := Below.on' hB4 hBx
            by_cases hql : q < L.length
            · obtain ⟨x, hx, _⟩ := get_lt hql
              have HS := Lib.hid hx
              obtain ⟨_, _, rfl, _, _, _, d0, _⟩ := Ints.at1 (hL.below hBx) hx
              clear hx
              go_wp2_with fail
              refine (apMay_any st x _).mono ?_
              rintro e w6 ⟨rfl, hb⟩
              have hB6 := Below.on' hBx hb
              clear d0
              by_cases g7 : mayB st x = true
              · have HC' := Lib.hid (chain_step HS.out HC.out g7)
                rw [g7]
                clear HC HS
                go_wp2
                go_roundw
                case rel => exact ⟨q + 1, x, by omega, rfl, by go_num, HC', hB6⟩
                case measure => simp [intOf]; omega
              · have g7 : mayB st x = false := by simpa using g7
                have HF : Hid (endsB f n s r h = false) := Lib.hid (by rw [HA.out]; exact upto_no hlt (by rw [HE.out]; show (match chainF az L with | some x => _ | none => false) = false; rw [chain_no HS.out HC.out g7]))
                have hB7 := Below.on' hB4 hB6
                rw [g7]
                clear HC HS HE HK
                go_wp2
                go_ret
                exact RV.mk (by rw [HF.out]; rfl) hB7
            · have HC' : Hid (chainF az L = some st) := Lib.hid (by have := HC.out; rw [List.take_of_length_le (by omega)] at this; exact this)
              have hX5 := hX4.below hBx
              have hY5 := hY4.upto (by omega) hBx
              have hZ5 := hZ4.upto (by omega) hBx
              have hwx := hBx.size
              obtain ⟨y0, z0⟩ := hY5 0 _ rfl
              obtain ⟨y1, z1⟩ := hY5 1 _ rfl
              obtain ⟨y2, z2⟩ := hY5 2 _ rfl
              obtain ⟨y3, z3⟩ := hY5 3 _ rfl
              obtain ⟨y4, z4⟩ := hY5 4 _ rfl
              have u0 := (hZ5 0 _ rfl).1
              have u1 := (hZ5 1 _ rfl).1
              have u2 := (hZ5 2 _ rfl).1
              have u3 := (hZ5 3 _ rfl).1
              have u4 := (hZ5 4 _ rfl).1
              have HE' : Hid (endAt f n s k = App.eqB ⟨an, ak, ad, ac, st⟩ ⟨bn, bk, bd, bc, bz⟩) := Lib.hid (by rw [HE.out]; show (match chainF az L with | some x => App.eqB ⟨an, ak, ad, ac, x⟩ ⟨bn, bk, bd, bc, bz⟩ | none => false) = _; rw [HC'.out])
              have hB6 := hset _ (.int .i64 st) hB5
              have hX6 := hoff _ (.int .i64 st) hX5
              clear HC HC' HE z0 z1 z2 z3
              by_cases g8 : App.eqB ⟨an, ak, ad, ac, st⟩ ⟨bn, bk, bd, bc, bz⟩ = true
              · have qa := App.neq ⟨an, ak, ad, ac, st⟩ ⟨bn, bk, bd, bc, bz⟩ false g8
                dsimp only at qa
                have HX' := Lib.hid (upto_step HK.out (by rw [HE'.out, g8]))
                clear HK HE' g8
                go_wp2
                go_roundw
                case rel => exact ⟨k + 1, by omega, by go_num, HX', hX6, hB6⟩
                case measure => simp [intOf]; omega
              · have g8 : App.eqB ⟨an, ak, ad, ac, st⟩ ⟨bn, bk, bd, bc, bz⟩ = false := by simpa using g8
                have qa := App.neq ⟨an, ak, ad, ac, st⟩ ⟨bn, bk, bd, bc, bz⟩ true g8
                dsimp only at qa
                have HF : Hid (endsB f n s r h = false) := Lib.hid (by rw [HA.out]; exact upto_no hlt (by rw [HE'.out, g8]))
                clear HK HE' g8
                go_wp2
                go_ret
                exact RV.mk (by rw [HF.out]; rfl) hB6
        · obtain rfl : k = f.length := by omega
          have HF : Hid (endsB f n s r h = true) := Lib.hid (by rw [HA.out]; exact upto_all HK.out)
          clear HK HA
          go_wp2
          go_ret
          exact RV.mk (by rw [HF.out]; rfl) hB
end Go.Proofs.YtjmjilkpckbpeaaGreatDoor
namespace Go.Proofs.YtjmjilkpckbpeaaGreatDoor
open Go.RowKit Go.WideMaps Go.Maps

/-- The map in memory reads as M. -/
def StD (D : DataW Unit) (M : StM) : Prop := IsMap D ∧ ∀ x : ByteArray, Maps.has D (.string x.data.toList) = (M x).isSome ∧ D.atKey (.string x.data.toList) (.lit (.int .i64 0)) = .lit (.int .i64 ((M x).getD 0))
theorem StD.step {D : DataW Unit} {M : StM} (hD : StD D M) (k : ByteArray) (v : Int) : StD (D.put (.string k.data.toList) (.lit (.int .i64 v))) (updM M k v) := by
  refine ⟨hD.1.put _ _, fun x => ?_⟩
  unfold updM
  by_cases e : x = k
  · subst e
    rw [if_pos rfl, atKey_put_same hD.1 (show WideAt.IsKeyLit (.string _) from trivial), has_put_same hD.1 (show WideAt.IsKeyLit (.string _) from trivial)]
    exact ⟨rfl, rfl⟩
  · have hne : (Lit.string x.data.toList) ≠ .string k.data.toList := by
      intro q
      injection q with q
      exact e (toList_inj (by rw [Go.ByteArray.toList_eq, Go.ByteArray.toList_eq, q]))
    rw [if_neg e, atKey_put_other hne, has_put_other hne]
    exact hD.2 x
theorem mapM_snoc {f : List App} {k : Nat} {a : App} (hf : fleetB f = true) (ha : f[k]? = some a) : mapM (f.take (k + 1)) = updM (mapM (f.take k)) a.nm a.st := by
  funext x
  unfold mapM updM
  rw [take_snoc ha, List.find?_append]
  by_cases hx : x = a.nm
  · subst hx
    have e : (f.take k).find? (fun b : App => decide (b.nm = a.nm)) = none := by
      rw [List.find?_eq_none]
      intro b hb
      simp only [decide_eq_true_eq]
      intro e
      obtain ⟨j, hj⟩ := List.mem_iff_getElem?.1 hb
      have hjk : j < k := by have := (List.getElem?_eq_some_iff.1 hj).1; rw [List.length_take] at this; omega
      rw [List.getElem?_take_of_lt hjk] at hj
      have := fleet_inj hf hj ha e
      omega
    rw [if_pos rfl, e]; simp
  · have e : [a].find? (fun b : App => decide (b.nm = x)) = none := by simp; exact fun q => hx q.symm
    rw [if_neg hx, e, Option.or_none]
theorem fldAt_eq {f n : List App} {i : Nat} {a b : App} (ha : f[i]? = some a) (hb : n[i]? = some b) : fldAt f n i = App.eqB (withSt a b.st) b := by
  simp only [fldAt, ha, hb]
theorem ownsMap_same {w w' : World} {P : Program} {k : TypeId} {R : Value → Option (DataW Unit × List MemPlace)} {b n : Nat} {D : DataW Unit} (h : w.ownsMap P k R b n D) (e : w'.heap[b]? = w.heap[b]?) : w'.ownsMap P k R b n D := by
  obtain ⟨es, clock, hb, F, hs, hD⟩ := h
  exact ⟨es, clock, e.trans hb, F, hs, hD⟩
theorem foldM_step {M : StM} {s : List Msg} {k : Nat} {m : Msg} (hx : s[k]? = some m) : foldM M (s.drop k) = match M m.f with
    | some b => if 0 ≤ stF m.b ∧ mayB b (stF m.b) = true then foldM (updM M m.f (stF m.b)) (s.drop (k + 1)) else none
    | none => none := by
  obtain ⟨h1, rfl⟩ := List.getElem?_eq_some_iff.1 hx
  rw [List.drop_eq_getElem_cons h1, foldM]; rfl
theorem fleet_wf {f : List App} (h : fleetB f = true) : ∀ y ∈ f, (Lit.int .i64 y.st).wf = true := by
  intro y hy
  obtain ⟨i, hi⟩ := List.mem_iff_getElem?.1 hy
  have q := fleet_at h (List.getElem?_eq_some_iff.1 hi).1
  unfold fltAt at q
  rw [hi] at q
  simp only [Bool.and_eq_true] at q
  have ha := q.1
  unfold appB at ha
  simp only [Bool.and_eq_true] at ha
  have hs := ha.2
  simp only [stateB, inB, Bool.and_eq_true, decide_eq_true_eq] at hs
  simp only [Lit.wf, IntKind.min, IntKind.max, IntKind.signed, IntKind.bits, Bool.and_eq_true, decide_eq_true_eq, if_true]; omega
def knownAt (M : StM) (b : App) : Bool := decide ((M b.nm).getD 0 = b.st)
set_option maxRecDepth 100000 in
set_option maxHeartbeats 16000000 in
theorem areEnds_any (Af : Option Addr) (cf : Nat) (f : List App) (An : Option Addr) (cn : Nat) (n : List App) (As : Option Addr) (cs : Nat) (s : List Msg) (Ar : Option Addr) (cr : Nat) (r : List Msg) (Ah : Option Addr) (ch : Nat) (h : List Msg) (w : World) (pb : Nat) (hX : BN pb [.slice Af f.length cf, .slice An n.length cn, .slice As s.length cs, .slice Ar r.length cr, .slice Ah h.length ch] w) (hlf : f.length ≤ 1048576) (hmf : ∀ y ∈ f, y.nm.size ≤ 1048576) (hSf : Apps w 0 w.heap.size Af f) (hln : n.length ≤ 1048576) (hmn : ∀ y ∈ n, y.nm.size ≤ 1048576) (hSn : Apps w 0 w.heap.size An n) (hls : s.length ≤ 1048576) (hms : ∀ y ∈ s, y.f.size ≤ 1048576 ∧ y.b.size ≤ 1048576) (hSs : Msgs w 0 w.heap.size As s) (hcs : s.length ≤ cs) (hlr : r.length ≤ 1048576) (hmr : ∀ y ∈ r, y.f.size ≤ 1048576 ∧ y.b.size ≤ 1048576) (hSr : Msgs w 0 w.heap.size Ar r) (hcr : r.length ≤ cr) (hlh : h.length ≤ 1048576) (hmh : ∀ y ∈ h, y.f.size ≤ 1048576 ∧ y.b.size ≤ 1048576) (hSh : Msgs w 0 w.heap.size Ah h) (hch : h.length ≤ ch) (hT : Said w) :
    Calls Tryz.prog 100 #[.pointer (some ⟨pb, 0, none⟩)] w (RV w (.bool (endsB f n s r h))) := by
  have hmm := @run_makeMap Tryz.prog
  have hcls : ∀ W, Below w.heap.size w W → W.cell? ⟨pb, 0, none⟩ = some (.slice Af f.length cf) ∧ W.cell? ⟨pb, 1, none⟩ = some (.slice An n.length cn) ∧ W.cell? ⟨pb, 2, none⟩ = some (.slice As s.length cs) ∧ W.cell? ⟨pb, 3, none⟩ = some (.slice Ar r.length cr) ∧ W.cell? ⟨pb, 4, none⟩ = some (.slice Ah h.length ch) := fun W hb => ⟨keep hb (hX 0 _ rfl).1, keep hb (hX 1 _ rfl).1, keep hb (hX 2 _ rfl).1, keep hb (hX 3 _ rfl).1, keep hb (hX 4 _ rfl).1⟩
  have HM : ∀ W, Below w.heap.size w W → Calls Tryz.prog 117 #[.slice Af f.length cf] W (RV W (.bool (fleetB f))) := fun W hb => isFleet_any Af cf f W hlf hmf (hSf.below hb).all
  have HN : ∀ W, Below w.heap.size w W → Calls Tryz.prog 117 #[.slice An n.length cn] W (RV W (.bool (fleetB n))) := fun W hb => isFleet_any An cn n W hln hmn (hSn.below hb).all
  have HC : ∀ W, Below w.heap.size w W → Calls Tryz.prog 64 #[.pointer (some ⟨pb, 2, none⟩)] W (RV W (.bool (chanB s r h))) := fun W hb =>
    have hX' : BN pb [.slice Af f.length cf, .slice An n.length cn, .slice As s.length cs, .slice Ar r.length cr, .slice Ah h.length ch] W := hX.upto (hX.lt (by simp)) hb
    isChannel_any pb 2 As cs s Ar cr r Ah ch h W ⟨(hX' 2 _ rfl).1, (hX' 3 _ rfl).1, (hX' 4 _ rfl).1, (hX' 2 _ rfl).2, (hX' 3 _ rfl).2, (hX' 4 _ rfl).2⟩ hls hms (hSs.below hb).all hcs hlr hmr (hSr.below hb).all hcr hlh hmh (hSh.below hb).all hch
  go_enter Tryz.func100, Tryz.ntmps100
  by_cases g1 : fleetB f = true
  rotate_left
  · have g1 : fleetB f = false := by simpa using g1
    rw [g1] at HM
    have HF : Hid (endsB f n s r h = false) := Lib.hid (by rw [endsB, g1]; rfl)
    go_wp2_with fail
    refine wp_region_quiet (C := fun w' => Below w.heap.size w w') (by kernel_rfl) (by kernel_rfl) ((Below.refl _ _).drew) ?_
    dsimp only [Array.toList]
    iterate 34
      with_reducible refine wpQuiet_step (fun K hK => ?_)
      go_simp
      first
        | (refine hK _ ?_; clear hK K)
        | (apply Exists.intro
           refine ⟨fun w' hw' => ?_, hK _ ?_⟩
           · obtain ⟨x0, x1, x2, x3, x4⟩ := hcls w' hw'
             have M0 := HM w' hw'
             have M1 := HN w' hw'
             have M2 := HC w' hw'
             go_simp
             first
               | rfl
               | ((with_reducible (refine M0.mono ?_)); rintro e w1 ⟨rfl, hb⟩; exact ⟨rfl, hw'.trans (hb.mono hw'.size)⟩)
               | ((with_reducible (refine M1.mono ?_)); rintro e w1 ⟨rfl, hb⟩; exact ⟨rfl, hw'.trans (hb.mono hw'.size)⟩)
               | ((with_reducible (refine M2.mono ?_)); rintro e w1 ⟨rfl, hb⟩; exact ⟨rfl, hw'.trans (hb.mono hw'.size)⟩)
           clear hK K)
    refine wpQuiet_nil ?_
    intro W2 hW2
    clear hcls HM HN HC
    go_wp2
    go_ret
    exact RV.mk (by rw [HF.out]; rfl) hW2
  by_cases g2 : fleetB n = true
  rotate_left
  · have g2 : fleetB n = false := by simpa using g2
    rw [g1] at HM
    rw [g2] at HN
    have HF : Hid (endsB f n s r h = false) := Lib.hid (by rw [endsB, g1, g2]; rfl)
    go_wp2_with fail
    refine wp_region_quiet (C := fun w' => Below w.heap.size w w') (by kernel_rfl) (by kernel_rfl) ((Below.refl _ _).drew) ?_
    dsimp only [Array.toList]
    iterate 34
      with_reducible refine wpQuiet_step (fun K hK => ?_)
      go_simp
      first
        | (refine hK _ ?_; clear hK K)
        | (apply Exists.intro
           refine ⟨fun w' hw' => ?_, hK _ ?_⟩
           · obtain ⟨x0, x1, x2, x3, x4⟩ := hcls w' hw'
             have M0 := HM w' hw'
             have M1 := HN w' hw'
             have M2 := HC w' hw'
             go_simp
             first
               | rfl
               | ((with_reducible (refine M0.mono ?_)); rintro e w1 ⟨rfl, hb⟩; exact ⟨rfl, hw'.trans (hb.mono hw'.size)⟩)
               | ((with_reducible (refine M1.mono ?_)); rintro e w1 ⟨rfl, hb⟩; exact ⟨rfl, hw'.trans (hb.mono hw'.size)⟩)
               | ((with_reducible (refine M2.mono ?_)); rintro e w1 ⟨rfl, hb⟩; exact ⟨rfl, hw'.trans (hb.mono hw'.size)⟩)
           clear hK K)
    refine wpQuiet_nil ?_
    intro W2 hW2
    clear hcls HM HN HC
    go_wp2
    go_ret
    exact RV.mk (by rw [HF.out]; rfl) hW2
  by_cases g4 : f.length = n.length
  rotate_left
  · have g5 : ((f.length : Int) != (n.length : Int)) = true := by rw [bne_iff_ne]; omega
    rw [g1] at HM
    rw [g2] at HN
    have HF : Hid (endsB f n s r h = false) := Lib.hid (by rw [endsB, decide_eq_false g4]; simp)
    go_wp2_with fail
    refine wp_region_quiet (C := fun w' => Below w.heap.size w w') (by kernel_rfl) (by kernel_rfl) ((Below.refl _ _).drew) ?_
    dsimp only [Array.toList]
    iterate 34
      with_reducible refine wpQuiet_step (fun K hK => ?_)
      go_simp
      try simp only [g5]
      first
        | (refine hK _ ?_; clear hK K)
        | (apply Exists.intro
           refine ⟨fun w' hw' => ?_, hK _ ?_⟩
           · obtain ⟨x0, x1, x2, x3, x4⟩ := hcls w' hw'
             have M0 := HM w' hw'
             have M1 := HN w' hw'
             have M2 := HC w' hw'
             go_simp
             first
               | rfl
               | ((with_reducible (refine M0.mono ?_)); rintro e w1 ⟨rfl, hb⟩; exact ⟨rfl, hw'.trans (hb.mono hw'.size)⟩)
               | ((with_reducible (refine M1.mono ?_)); rintro e w1 ⟨rfl, hb⟩; exact ⟨rfl, hw'.trans (hb.mono hw'.size)⟩)
               | ((with_reducible (refine M2.mono ?_)); rintro e w1 ⟨rfl, hb⟩; exact ⟨rfl, hw'.trans (hb.mono hw'.size)⟩)
           clear hK K)
    refine wpQuiet_nil ?_
    intro W2 hW2
    clear hcls HM HN HC
    go_wp2
    go_ret
    exact RV.mk (by rw [HF.out]; rfl) hW2
  by_cases g3 : chanB s r h = true
  rotate_left
  · have g3 : chanB s r h = false := by simpa using g3
    have hnl : n.length = f.length := g4.symm
    rw [g1] at HM
    rw [g2, hnl] at HN
    rw [g3] at HC
    rw [hnl] at hcls
    clear g4 hnl
    have HF : Hid (endsB f n s r h = false) := Lib.hid (by rw [endsB, g3]; simp)
    go_wp2_with fail
    refine wp_region_quiet (C := fun w' => Below w.heap.size w w') (by kernel_rfl) (by kernel_rfl) ((Below.refl _ _).drew) ?_
    dsimp only [Array.toList]
    iterate 34
      with_reducible refine wpQuiet_step (fun K hK => ?_)
      go_simp
      first
        | (refine hK _ ?_; clear hK K)
        | (apply Exists.intro
           refine ⟨fun w' hw' => ?_, hK _ ?_⟩
           · obtain ⟨x0, x1, x2, x3, x4⟩ := hcls w' hw'
             have M0 := HM w' hw'
             have M1 := HN w' hw'
             have M2 := HC w' hw'
             go_simp
             first
               | rfl
               | ((with_reducible (refine M0.mono ?_)); rintro e w1 ⟨rfl, hb⟩; exact ⟨rfl, hw'.trans (hb.mono hw'.size)⟩)
               | ((with_reducible (refine M1.mono ?_)); rintro e w1 ⟨rfl, hb⟩; exact ⟨rfl, hw'.trans (hb.mono hw'.size)⟩)
               | ((with_reducible (refine M2.mono ?_)); rintro e w1 ⟨rfl, hb⟩; exact ⟨rfl, hw'.trans (hb.mono hw'.size)⟩)
           clear hK K)
    refine wpQuiet_nil ?_
    intro W2 hW2
    clear hcls HM HN HC
    go_wp2
    go_ret
    exact RV.mk (by rw [HF.out]; rfl) hW2
  have H4 : Hid (endsB f n s r h = ((List.range f.length).all (fldAt f n) && finI f n s)) := Lib.hid (by rw [← ends_eq, endsI, g1, g2, g3, decide_eq_true g4]; simp)
  have HG := Lib.hid g1
  have hif := fleet_wf g1
  have hnl : n.length = f.length := g4.symm
  rw [g1] at HM
  rw [g2, hnl] at HN
  rw [g3] at HC
  rw [hnl] at hcls hX
  have HL := Lib.hid hnl
  clear g1 g2 g3 g4 hnl
  go_wp2_with fail
  refine wp_region_quiet (C := fun w' => Below w.heap.size w w') (by kernel_rfl) (by kernel_rfl) ((Below.refl _ _).drew) ?_
  dsimp only [Array.toList]
  iterate 34
    with_reducible refine wpQuiet_step (fun K hK => ?_)
    go_simp
    first
      | (refine hK _ ?_; clear hK K)
      | (apply Exists.intro
         refine ⟨fun w' hw' => ?_, hK _ ?_⟩
         · obtain ⟨x0, x1, x2, x3, x4⟩ := hcls w' hw'
           have M0 := HM w' hw'
           have M1 := HN w' hw'
           have M2 := HC w' hw'
           go_simp
           first
             | rfl
             | ((with_reducible (refine M0.mono ?_)); rintro e w1 ⟨rfl, hb⟩; exact ⟨rfl, hw'.trans (hb.mono hw'.size)⟩)
             | ((with_reducible (refine M1.mono ?_)); rintro e w1 ⟨rfl, hb⟩; exact ⟨rfl, hw'.trans (hb.mono hw'.size)⟩)
             | ((with_reducible (refine M2.mono ?_)); rintro e w1 ⟨rfl, hb⟩; exact ⟨rfl, hw'.trans (hb.mono hw'.size)⟩)
         clear hK K)
  refine wpQuiet_nil ?_
  intro W2 hW2
  clear HM HN HC
  have hw2 := hW2.size
  have hM0 := World.ownsMap_made W2 Tryz.prog 9 (plainElem (H := Unit) Tryz.prog 3)
  have hD0 : StD (.map []) (mapM (f.take 0)) := ⟨isMap_empty, fun x => ⟨rfl, rfl⟩⟩
  have hB0 : Below w.heap.size w (W2.alloc (.map #[] 0)) := by go_grown
  have hsz0 : W2.heap.size < (W2.alloc (.map #[] 0)).heap.size := by simp
  obtain ⟨x0, x1, x2, x3, x4⟩ := hcls _ hB0
  have hpb := hX.lt (by simp)
  generalize hmb : W2.heap.size = mb at hM0 hw2 hsz0
  go_wp2_with fail
  try simp only [hmb]
  go_loopw [54] (fun i wr => ∃ (k : Nat) (D : DataW Unit), k ≤ f.length ∧ i = .int .i64 k ∧ Hid (∀ i, i < k → fldAt f n i = true) ∧ wr.ownsMap Tryz.prog 9 (plainElem Tryz.prog 3) mb k D ∧ StD D (mapM (f.take k)) ∧ Below w.heap.size w wr ∧ mb < wr.heap.size) (fun i _ => f.length - (intOf i).toNat)
  case atStart => exact ⟨0, _, Nat.zero_le _, rfl, Lib.hid (fun i hi => absurd hi (Nat.not_lt_zero i)), hM0, hD0, hB0, hsz0⟩
  case round =>
    clear hM0 hD0 hB0 hsz0 x0 x1 x2 x3 x4 hW2
    obtain ⟨k, D, hk, rfl, HK, hM, hD, hB, hmw⟩ := hrel
    have hz := hB.size
    by_cases hlt : k < f.length
    · obtain ⟨⟨an, ak, ad, ac, az⟩, ha, ham⟩ := get_lt hlt
      obtain ⟨⟨bn, bk, bd, bc, bz⟩, hbn, _⟩ := get_lt (show k < n.length by rw [HL.out]; exact hlt)
      have HE := Lib.hid (fldAt_eq ha hbn)
      have HS := Lib.hid (mapM_snoc HG.out ha)
      have hkey : keyOf Tryz.prog 9 (.string an) = some (.string an.data.toList) := keyOf_string_mk Tryz.underlying9 (by unfold maxLen; exact Nat.le_trans (hmf _ ham) (by omega))
      have hwf : (Lit.int .i64 az).wf = true := hif _ ham
      obtain ⟨p, o, rfl, _, hpw, _, hf⟩ := (hSf.below hB).at_ ha
      have c0 : wr.cell? ⟨p, o + k * 5, none⟩ = some (.string an) := (hf 0 _ rfl).1
      have c1 : wr.cell? ⟨p, o + k * 5 + 1, none⟩ = some (.int .i64 ak) := (hf 1 _ rfl).1
      have c2 : wr.cell? ⟨p, o + k * 5 + 2, none⟩ = some (.int .i64 ad) := (hf 2 _ rfl).1
      have c3 : wr.cell? ⟨p, o + k * 5 + 3, none⟩ = some (.int .i64 ac) := (hf 3 _ rfl).1
      have c4 : wr.cell? ⟨p, o + k * 5 + 4, none⟩ = some (.int .i64 az) := (hf 4 _ rfl).1
      clear hf ham
      have hMV := hM.alloc (.cells #[.string an, .int .i64 ak, .int .i64 ad, .int .i64 ac, .int .i64 az] 73)
      have hkm : k < maxLen := by unfold maxLen; omega
      have hY := BN.new wr #[.string an, .int .i64 ak, .int .i64 ad, .int .i64 ac, .int .i64 az] 73 _ rfl
      go_wp2_with (first | (at_mapUpdate; refine wpList_mapUpdate_own _ rfl _ _ _ 136 rfl 9 3 keyLaw Tryz.underlying136 _ mb k _ rfl hMV hkm _ _ _ rfl rfl hkey _ [] (plainElem_int Tryz.underlying3 hwf) ?_) | fail)
      intro w1 hown1 hgrow1
      have hB1 : Below w.heap.size w w1 := (hB.alloc hz (.cells #[.string an, .int .i64 ak, .int .i64 ad, .int .i64 ac, .int .i64 az] 73)).grown hgrow1 (by simp; omega) (fun j hj => by cases hj; exact hw2)
      have hY1 := hY.same (hgrow1.block _ (hY.lt (by simp)) (by simp; omega))
      have hD1 : StD (D.put (.string an.data.toList) (.lit (.int .i64 az))) (mapM (f.take (k + 1))) := by rw [HS.out]; exact hD.step an az
      clear c0 c1 c2 c3 c4 hM hMV hkey hwf hkm HS hD ha hgrow1
      obtain ⟨x0, x1, x2, x3, x4⟩ := hcls _ hB1
      obtain ⟨p', o', rfl, _, hpw', _, hf⟩ := (hSn.below hB1).at_ hbn
      have c5 : w1.cell? ⟨p', o' + k * 5, none⟩ = some (.string bn) := (hf 0 _ rfl).1
      have c6 : w1.cell? ⟨p', o' + k * 5 + 1, none⟩ = some (.int .i64 bk) := (hf 1 _ rfl).1
      have c7 : w1.cell? ⟨p', o' + k * 5 + 2, none⟩ = some (.int .i64 bd) := (hf 2 _ rfl).1
      have c8 : w1.cell? ⟨p', o' + k * 5 + 3, none⟩ = some (.int .i64 bc) := (hf 3 _ rfl).1
      have c9 : w1.cell? ⟨p', o' + k * 5 + 4, none⟩ = some (.int .i64 bz) := (hf 4 _ rfl).1
      clear hf hbn
      obtain ⟨y0, z0⟩ := hY1 0 _ rfl
      obtain ⟨y1, z1⟩ := hY1 1 _ rfl
      obtain ⟨y2, z2⟩ := hY1 2 _ rfl
      obtain ⟨y3, z3⟩ := hY1 3 _ rfl
      obtain ⟨y4, z4⟩ := hY1 4 _ rfl
      clear z0 z1 z2 z3
      have hB3 : Below w.heap.size w (w1.setCell ⟨wr.heap.size, 4, none⟩ (.int .i64 bz)) := by go_grown
      have hM3 := ownsMap_same hown1 (Below.heap_setCell w1 ⟨wr.heap.size, 4, none⟩ (.int .i64 bz) mb (by simp; omega))
      have hsz3 : wr.heap.size < (w1.setCell ⟨wr.heap.size, 4, none⟩ (.int .i64 bz)).heap.size := by have := World.block_lt_of_cell? _ _ y4; simp [World.setCell]; simpa using this
      have q0 : (w1.setCell ⟨wr.heap.size, 4, none⟩ (.int .i64 bz)).cell? ⟨wr.heap.size, 0, none⟩ = some (.string an) := (World.cell?_setCell_other _ _ _ _ (by simp)).trans y0
      have q1 : (w1.setCell ⟨wr.heap.size, 4, none⟩ (.int .i64 bz)).cell? ⟨wr.heap.size, 1, none⟩ = some (.int .i64 ak) := (World.cell?_setCell_other _ _ _ _ (by simp)).trans y1
      have q2 : (w1.setCell ⟨wr.heap.size, 4, none⟩ (.int .i64 bz)).cell? ⟨wr.heap.size, 2, none⟩ = some (.int .i64 ad) := (World.cell?_setCell_other _ _ _ _ (by simp)).trans y2
      have q3 : (w1.setCell ⟨wr.heap.size, 4, none⟩ (.int .i64 bz)).cell? ⟨wr.heap.size, 3, none⟩ = some (.int .i64 ac) := (World.cell?_setCell_other _ _ _ _ (by simp)).trans y3
      have q4 : (w1.setCell ⟨wr.heap.size, 4, none⟩ (.int .i64 bz)).cell? ⟨wr.heap.size, 4, none⟩ = some (.int .i64 bz) := World.cell?_setCell_same _ _ _ y4
      have hne : wr.heap.size ≠ p' := by omega
      have q5 := unset (p := ⟨wr.heap.size, 4, none⟩) (u := .int .i64 bz) c5 hne
      have q6 := unset (p := ⟨wr.heap.size, 4, none⟩) (u := .int .i64 bz) c6 hne
      have q7 := unset (p := ⟨wr.heap.size, 4, none⟩) (u := .int .i64 bz) c7 hne
      have q8 := unset (p := ⟨wr.heap.size, 4, none⟩) (u := .int .i64 bz) c8 hne
      have q9 := unset (p := ⟨wr.heap.size, 4, none⟩) (u := .int .i64 bz) c9 hne
      have qx := (hcls _ hB3).2.1
      go_wp2_with fail
      generalize w1.setCell ⟨wr.heap.size, 4, none⟩ (.int .i64 bz) = W3 at hB3 hM3 hsz3 q0 q1 q2 q3 q4 q5 q6 q7 q8 q9 qx ⊢
      generalize hE : wr.heap.size = e6 at *
      have hcl3 := fun (W : World) (hb : Below W3.heap.size W3 W) => And.intro (keep hb q0) (And.intro (keep hb q1) (And.intro (keep hb q2) (And.intro (keep hb q3) (And.intro (keep hb q4) (And.intro (keep hb q5) (And.intro (keep hb q6) (And.intro (keep hb q7) (And.intro (keep hb q8) (And.intro (keep hb q9) (keep hb qx))))))))))
      clear q0 q1 q2 q3 q4 q5 q6 q7 q8 q9 qx c5 c6 c7 c8 c9 y0 y1 y2 y3 y4 z4 x0 x1 x2 x3 x4 hown1
      have hmw3 : mb < W3.heap.size := by omega
      by_cases g8 : App.eqB ⟨an, ak, ad, ac, bz⟩ ⟨bn, bk, bd, bc, bz⟩ = true
      · have heq := App.neq ⟨an, ak, ad, ac, bz⟩ ⟨bn, bk, bd, bc, bz⟩ false (by rw [g8]; rfl)
        dsimp only at heq
        have HX' := Lib.hid (upto_step HK.out (by rw [HE.out]; exact g8))
        clear HK HE g8
        go_wp2_with fail
        refine wp_region_quiet (C := fun w' => Below W3.heap.size W3 w') (by kernel_rfl) (by kernel_rfl) ((Below.refl _ _).drew) ?_
        dsimp only [Array.toList]
        iterate 9
          with_reducible refine wpQuiet_step (fun K hK => ?_)
          go_simp
          first
            | (refine hK _ ?_; clear hK K)
            | (apply Exists.intro
               refine ⟨fun w' hw' => ?_, hK _ ?_⟩
               · obtain ⟨q0, q1, q2, q3, q4, q5, q6, q7, q8, q9, qx⟩ := hcl3 w' hw'
                 have hqq := heq w'
                 first
                   | (go_simp; rfl)
                   | (simp only [Sem.run] at hqq; exact hqq)
               clear hK K)
        refine wpQuiet_nil ?_
        intro W2 hW2
        have hB4 := Below.on' hB3 hW2
        have hM4 := ownsMap_same hM3 (hW2.block mb hmw3)
        have hsz4 : mb < W2.heap.size := by have := hW2.size; omega
        clear hcl3 heq
        go_wp2
        go_roundw
        case rel => exact ⟨k + 1, _, by omega, by go_num, HX', hM4, hD1, hB4, hsz4⟩
        case measure => simp [intOf]; omega
      · have g8 : App.eqB ⟨an, ak, ad, ac, bz⟩ ⟨bn, bk, bd, bc, bz⟩ = false := by simpa using g8
        have heq := App.neq ⟨an, ak, ad, ac, bz⟩ ⟨bn, bk, bd, bc, bz⟩ true (by rw [g8]; rfl)
        dsimp only at heq
        have HF : Hid (endsB f n s r h = false) := Lib.hid (by rw [H4.out, upto_no hlt (by rw [HE.out]; exact g8)]; rfl)
        clear HK HE g8
        go_wp2_with fail
        refine wp_region_quiet (C := fun w' => Below W3.heap.size W3 w') (by kernel_rfl) (by kernel_rfl) ((Below.refl _ _).drew) ?_
        dsimp only [Array.toList]
        iterate 9
          with_reducible refine wpQuiet_step (fun K hK => ?_)
          go_simp
          first
            | (refine hK _ ?_; clear hK K)
            | (apply Exists.intro
               refine ⟨fun w' hw' => ?_, hK _ ?_⟩
               · obtain ⟨q0, q1, q2, q3, q4, q5, q6, q7, q8, q9, qx⟩ := hcl3 w' hw'
                 have hqq := heq w'
                 first
                   | (go_simp; rfl)
                   | (simp only [Sem.run] at hqq; exact hqq)
               clear hK K)
        refine wpQuiet_nil ?_
        intro W2 hW2
        have hB4 := Below.on' hB3 hW2
        clear hcl3 heq
        go_wp2
        go_ret
        exact RV.mk (by rw [HF.out]; rfl) hB4
    · obtain rfl : k = f.length := by omega
      have HA : Hid (endsB f n s r h = finI f n s) := Lib.hid (by rw [H4.out, upto_all HK.out, Bool.true_and])
      rw [List.take_of_length_le (Nat.le_refl _)] at hD
      clear HK H4
      obtain ⟨x0, x1, x2, x3, x4⟩ := hcls _ hB
      go_wp2_with fail
      go_loopw [89] (fun i wr => ∃ (k : Nat) (D : DataW Unit) (M : StM), k ≤ s.length ∧ i = .int .i64 k ∧ Hid (foldM (mapM f) s = foldM M (s.drop k)) ∧ wr.ownsMap Tryz.prog 9 (plainElem Tryz.prog 3) mb (f.length + k) D ∧ StD D M ∧ Below w.heap.size w wr ∧ mb < wr.heap.size) (fun i _ => s.length - (intOf i).toNat)
      case atStart => exact ⟨0, D, mapM f, Nat.zero_le _, rfl, Lib.hid rfl, hM, hD, hB, hmw⟩
      case round =>
        clear x0 x1 x2 x3 x4 hM hD hB hmw hz hlt hk
        obtain ⟨k, D, M, hk, rfl, HK, hM, hD, hB, hmw⟩ := hrel
        have hz := hB.size
        by_cases hlt : k < s.length
        · obtain ⟨⟨xf, xn, xb⟩, hx, hxM⟩ := get_lt hlt
          obtain ⟨hxf, hxb⟩ := hms _ hxM
          have HS := Lib.hid (HK.out.trans (foldM_step hx))
          have HNo : Hid (foldM (mapM f) s = none → endsB f n s r h = false) := Lib.hid (fun e => by rw [HA.out, finI, e])
          have hkey : keyOf Tryz.prog 9 (.string xf) = some (.string xf.data.toList) := keyOf_string_mk Tryz.underlying9 (by unfold maxLen; exact Nat.le_trans hxf (by omega))
          obtain ⟨b, off, rfl, _, _, _, hf⟩ := (hSs.below hB).at_ hx
          have c0 : wr.cell? ⟨b, off + k * 3, none⟩ = some (.string xf) := (hf 0 _ rfl).1
          have c1 : wr.cell? ⟨b, off + k * 3 + 1, none⟩ = some (.int .i64 xn) := (hf 1 _ rfl).1
          have c2 : wr.cell? ⟨b, off + k * 3 + 2, none⟩ = some (.string xb) := (hf 2 _ rfl).1
          have hMV := hM.alloc (.cells #[.string xf, .int .i64 xn, .string xb] 33)
          have hY := B3.new wr (.string xf) (.int .i64 xn) (.string xb) 33 _ rfl
          have hBa : Below w.heap.size w (wr.alloc (.cells #[.string xf, .int .i64 xn, .string xb] 33)) := by go_grown
          have hma : mb < (wr.alloc (.cells #[.string xf, .int .i64 xn, .string xb] 33)).heap.size := by simp; omega
          clear hf hxM hx hM HK
          go_wp2_with (first | (at_lookup; refine wpList_lookup_own_ok_int _ rfl _ _ 136 rfl 9 3 .i64 keyLaw Tryz.underlying136 Tryz.underlying3 (zeroInt _) mb (f.length + k) D rfl hMV _ _ rfl hkey ?_) | fail)
          intro c hat _
          obtain rfl : c = (M xf).getD 0 := by have := hat.symm.trans (hD.2 xf).2; simpa using this
          rw [(hD.2 xf).1]
          clear hat
          have HG0 := Lib.hid (rfl : (M xf).getD 0 = (M xf).getD 0)
          generalize hok : (M xf).isSome = ok
          generalize ha0 : (M xf).getD 0 = a0
          replace hok := Lib.hid hok
          replace ha0 := Lib.hid ha0
          clear HG0
          cases ok with
          | false =>
            have HF : Hid (endsB f n s r h = false) := Lib.hid (HNo.out (by
              have e : M xf = none := by cases q : M xf with
                | none => rfl
                | some _ => have := hok.out; rw [q] at this; cases this
              rw [HS.out]; simp only [e]))
            clear HS HNo hok ha0 hD hMV hkey
            obtain ⟨d0, d1, d2, _, _, _⟩ := id hY
            go_wp2_with fail
            refine (parseStateBody_any xb hxb _ (hT.below hBa)).mono ?_
            rintro e w2 ⟨v, ok2, rfl, HP, hb⟩
            have hB2 := Below.on' hBa hb
            clear HP hb
            go_wp2
            go_ret
            exact RV.mk (by rw [HF.out]; rfl) hB2
          | true =>
            have HMx : Hid (M xf = some a0) := Lib.hid (by
              cases q : M xf with
              | none => have := hok.out; rw [q] at this; cases this
              | some z => have := ha0.out; rw [q] at this; rw [← this]; rfl)
            obtain ⟨d0, d1, d2, _, _, _⟩ := id hY
            clear hok ha0
            go_wp2_with fail
            refine (parseStateBody_any xb hxb _ (hT.below hBa)).mono ?_
            rintro e w2 ⟨v, ok2, rfl, HP, hb⟩
            have hB2 := Below.on' hBa hb
            have hM2 := ownsMap_same hMV (hb.block mb hma)
            have hm2 : mb < w2.heap.size := Nat.lt_of_lt_of_le hma hb.size
            have hY2 := hY.below hb
            clear d0 d1 d2 hb hMV hma hY hBa
            cases ok2 with
            | false =>
              have HF : Hid (endsB f n s r h = false) := Lib.hid (HNo.out (by
                have e : stF xb = -1 := by
                  rcases HP.out with ⟨_, _, q⟩ | ⟨q, _⟩
                  · exact (stF_of q).symm
                  · cases q
                rw [HS.out]; simp only [HMx.out, e]; rfl))
              clear HS HNo HMx HP hD hM2 hkey
              go_wp2
              go_ret
              exact RV.mk (by rw [HF.out]; rfl) hB2
            | true =>
              have HV : Hid (v = stF xb ∧ 0 ≤ v ∧ v ≤ 5) := Lib.hid (by
                rcases HP.out with ⟨q, _⟩ | ⟨_, q0, q⟩
                · cases q
                · refine ⟨stF_of q, q0, ?_⟩
                  rcases q with ⟨rfl, _⟩ | ⟨q, _⟩ <;> omega)
              clear HP
              go_wp2_with fail
              refine (following_any a0 _).mono ?_
              rintro e w3 ⟨A2, c2', rfl, hL, _, hb⟩
              have hB3 := Below.on' hB2 hb
              have hM3 := ownsMap_same hM2 (hb.block mb hm2)
              have hm3 : mb < w3.heap.size := Nat.lt_of_lt_of_le hm2 hb.size
              have hY3 := hY2.below hb
              clear hb hM2 hm2 hY2
              go_wp2_with fail
              refine (containsInts_any A2 c2' (nextI a0) v _ _ _ (Nat.le_trans (nextI_len a0) (by omega)) hL).mono ?_
              rintro e w4 ⟨rfl, hb⟩
              have hB4 := Below.on' hB3 hb
              have hM4 := ownsMap_same hM3 (hb.block mb hm3)
              have hm4 : mb < w4.heap.size := Nat.lt_of_lt_of_le hm3 hb.size
              have hY4 := hY3.below hb
              have hl4 := hY4.lt
              clear hb hM3 hm3 hY3 hL
              obtain ⟨d0, d1, d2, _, _, _⟩ := id hY4
              by_cases g : mayB a0 v = true
              · have HK' : Hid (foldM (mapM f) s = foldM (updM M xf v) (s.drop (k + 1))) := Lib.hid (by
                  rw [HS.out]; simp only [HMx.out]
                  rw [← HV.out.1, if_pos ⟨HV.out.2.1, g⟩])
                have hwf : (Lit.int .i64 v).wf = true := by
                  have := HV.out.2
                  simp only [Lit.wf, IntKind.min, IntKind.max, IntKind.signed, IntKind.bits, Bool.and_eq_true, decide_eq_true_eq, if_true]; omega
                have hkm : f.length + k < maxLen := by unfold maxLen; omega
                have hcon : (nextI a0).contains v = true := by rw [nextI_may]; exact g
                have hD' := hD.step xf v
                rw [hcon]
                clear HS HNo HMx HV g hcon hD
                go_wp2_with (first | (at_mapUpdate; refine wpList_mapUpdate_own _ rfl _ _ _ 136 rfl 9 3 keyLaw Tryz.underlying136 _ mb (f.length + k) _ rfl hM4 hkm _ _ _ rfl rfl hkey _ [] (plainElem_int Tryz.underlying3 hwf) ?_) | fail)
                intro w5 hown5 hgrow5
                have hB5 : Below w.heap.size w w5 := hB4.grown hgrow5 (by omega) (fun j hj => by cases hj; exact hw2)
                have hm5 : mb < w5.heap.size := hown5.lt
                clear hM4 hgrow5 hkm hwf hkey hY4 d0 d1 d2
                go_wp2
                go_roundw
                case rel => exact ⟨k + 1, _, _, by omega, by go_num, HK', hown5, hD', hB5, hm5⟩
                case measure => simp [intOf]; omega
              · have g : mayB a0 v = false := by simpa using g
                have hcon : (nextI a0).contains v = false := by rw [nextI_may]; exact g
                have HF : Hid (endsB f n s r h = false) := Lib.hid (HNo.out (by
                  rw [HS.out]; simp only [HMx.out]
                  rw [← HV.out.1, if_neg (fun q => by rw [q.2] at g; cases g)]))
                rw [hcon]
                clear HS HNo HMx HV g hcon hD hM4 hkey
                go_wp2
                go_ret
                exact RV.mk (by rw [HF.out]; rfl) hB4
        · obtain rfl : k = s.length := by omega
          have HA' : Hid (endsB f n s r h = finB M n) := Lib.hid (by
            have := HK.out
            rw [List.drop_of_length_le (Nat.le_refl _)] at this
            rw [HA.out, finI, this]; rfl)
          clear HK HA
          obtain ⟨x0, x1, x2, x3, x4⟩ := hcls _ hB
          go_wp2_with fail
          go_loopw [129] (fun i wr => ∃ k : Nat, k ≤ f.length ∧ i = .int .i64 k ∧ Hid ((n.take k).all (fun b => decide ((M b.nm).getD 0 = b.st)) = true) ∧ wr.ownsMap Tryz.prog 9 (plainElem Tryz.prog 3) mb (f.length + s.length) D ∧ Below w.heap.size w wr) (fun i _ => f.length - (intOf i).toNat)
          case atStart => exact ⟨0, Nat.zero_le _, rfl, Lib.hid rfl, hM, hB⟩
          case round =>
            clear x0 x1 x2 x3 x4 hM hB hmw hz hlt hk
            obtain ⟨k, hk, rfl, HK, hM, hB⟩ := hrel
            have hz := hB.size
            by_cases hlt : k < f.length
            · obtain ⟨⟨bn, bk, bd, bc, bz⟩, hbn, hbm⟩ := get_lt (show k < n.length by rw [HL.out]; exact hlt)
              have HT := Lib.hid (take_snoc hbn)
              have HBm := Lib.hid hbm
              have hkey : keyOf Tryz.prog 9 (.string bn) = some (.string bn.data.toList) := keyOf_string_mk Tryz.underlying9 (by unfold maxLen; exact Nat.le_trans (hmn _ hbm) (by omega))
              obtain ⟨p', o', rfl, _, hpw', _, hf⟩ := (hSn.below hB).at_ hbn
              have c5 : wr.cell? ⟨p', o' + k * 5, none⟩ = some (.string bn) := (hf 0 _ rfl).1
              have c6 : wr.cell? ⟨p', o' + k * 5 + 1, none⟩ = some (.int .i64 bk) := (hf 1 _ rfl).1
              have c7 : wr.cell? ⟨p', o' + k * 5 + 2, none⟩ = some (.int .i64 bd) := (hf 2 _ rfl).1
              have c8 : wr.cell? ⟨p', o' + k * 5 + 3, none⟩ = some (.int .i64 bc) := (hf 3 _ rfl).1
              have c9 : wr.cell? ⟨p', o' + k * 5 + 4, none⟩ = some (.int .i64 bz) := (hf 4 _ rfl).1
              clear hf hbn hbm
              have hMV := hM.alloc (.cells #[.string bn, .int .i64 bk, .int .i64 bd, .int .i64 bc, .int .i64 bz] 73)
              have hBa : Below w.heap.size w (wr.alloc (.cells #[.string bn, .int .i64 bk, .int .i64 bd, .int .i64 bc, .int .i64 bz] 73)) := by go_grown
              obtain ⟨c, hrun, hat, _⟩ := hMV.lookup_int keyLaw Tryz.underlying136 Tryz.underlying3 (zeroInt _) hkey
              obtain rfl : c = (M bn).getD 0 := by have := hat.symm.trans (hD.2 bn).2; simpa using this
              clear hM hat
              have HC0 : Hid (knownAt M ⟨bn, bk, bd, bc, bz⟩ = decide ((M bn).getD 0 = bz)) := Lib.hid rfl
              generalize (M bn).getD 0 = c at hrun HC0
              by_cases g : c = bz
              · have HK' : Hid ((n.take (k + 1)).all (fun b => decide ((M b.nm).getD 0 = b.st)) = true) := Lib.hid (by
                  rw [HT.out, List.all_append, HK.out]
                  have : knownAt M ⟨bn, bk, bd, bc, bz⟩ = true := by rw [HC0.out]; exact decide_eq_true g
                  simpa [knownAt] using this)
                clear HK HC0 HT HBm
                subst g
                go_wp2
                go_roundw
                case rel => exact ⟨k + 1, by omega, by go_num, HK', hMV, hBa⟩
                case measure => simp [intOf]; omega
              · have HF : Hid (endsB f n s r h = false) := Lib.hid (by
                  have : knownAt M ⟨bn, bk, bd, bc, bz⟩ = false := by rw [HC0.out]; exact decide_eq_false g
                  rw [HA'.out, finB, List.all_eq_false]
                  exact ⟨_, HBm.out, by unfold knownAt at this; rw [this]; exact Bool.false_ne_true⟩)
                clear HK HC0 HT HBm hMV
                go_wp2
                go_ret
                exact RV.mk (by rw [HF.out]; rfl) hBa
            · have HF : Hid (endsB f n s r h = true) := Lib.hid (by
                have := HK.out
                rw [List.take_of_length_le (by rw [HL.out]; omega)] at this
                rw [HA'.out, finB]; exact this)
              clear HK HA'
              go_wp2
              go_ret
              exact RV.mk (by rw [HF.out]; rfl) hB
end Go.Proofs.YtjmjilkpckbpeaaGreatDoor
namespace Go.Proofs.YtjmjilkpckbpeaaGreatDoor
open Go.RowKit

theorem AreEnds_impl (Af : Option Addr) (cf : Nat) (f : List App) (An : Option Addr) (cn : Nat) (n : List App) (As : Option Addr) (cs : Nat) (s : List Msg) (Ar : Option Addr) (cr : Nat) (r : List Msg) (Ah : Option Addr) (ch : Nat) (h : List Msg) (w : World) (hlf : f.length ≤ 1048576) (hmf : ∀ y ∈ f, y.nm.size ≤ 1048576) (hSf : Apps w 0 w.heap.size Af f) (hln : n.length ≤ 1048576) (hmn : ∀ y ∈ n, y.nm.size ≤ 1048576) (hSn : Apps w 0 w.heap.size An n) (hls : s.length ≤ 1048576) (hms : ∀ y ∈ s, y.f.size ≤ 1048576 ∧ y.b.size ≤ 1048576) (hSs : Msgs w 0 w.heap.size As s) (hcs : s.length ≤ cs) (hlr : r.length ≤ 1048576) (hmr : ∀ y ∈ r, y.f.size ≤ 1048576 ∧ y.b.size ≤ 1048576) (hSr : Msgs w 0 w.heap.size Ar r) (hcr : r.length ≤ cr) (hlh : h.length ≤ 1048576) (hmh : ∀ y ∈ h, y.f.size ≤ 1048576 ∧ y.b.size ≤ 1048576) (hSh : Msgs w 0 w.heap.size Ah h) (hch : h.length ≤ ch) (hT : Said w) :
    Calls Tryz.prog 44 #[.agg #[.slice Af f.length cf, .slice An n.length cn, .slice As s.length cs, .slice Ar r.length cr, .slice Ah h.length ch]] w (RV w (.bool (endsB f n s r h))) := by
  have hB0 : Below w.heap.size w (w.alloc (.cells #[.slice Af f.length cf, .slice An n.length cn, .slice As s.length cs, .slice Ar r.length cr, .slice Ah h.length ch] 52)) := by go_grown
  have hX := cells5.new w (.slice Af f.length cf) (.slice An n.length cn) (.slice As s.length cs) (.slice Ar r.length cr) (.slice Ah h.length ch) 52 _ rfl
  have hN := BN.new w #[.slice Af f.length cf, .slice An n.length cn, .slice As s.length cs, .slice Ar r.length cr, .slice Ah h.length ch] 52 _ rfl
  obtain ⟨b0, b1, b2, b3, b4⟩ := id hX
  go_enter Tryz.func44, Tryz.ntmps44
  go_wp2_with fail
  refine (areEnds_any Af cf f An cn n As cs s Ar cr r Ah ch h _ w.heap.size hN hlf hmf (hSf.below hB0).all hln hmn (hSn.below hB0).all hls hms (hSs.below hB0).all hcs hlr hmr (hSr.below hB0).all hcr hlh hmh (hSh.below hB0).all hch (hT.below hB0)).mono ?_
  rintro e w1 ⟨rfl, hb⟩
  have hB := Below.on' hB0 hb
  go_wp2
  go_ret
  exact RV.mk rfl hB
end Go.Proofs.YtjmjilkpckbpeaaGreatDoor

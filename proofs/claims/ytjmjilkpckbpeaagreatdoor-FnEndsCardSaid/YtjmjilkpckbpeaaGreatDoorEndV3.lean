/- AgreeOn, the reference. Conditions: at most 2^20 in each list, texts of at most 2^20; the listed variables as Said has them. -/
import Derived.Test.YtjmjilkpckbpeaaGreatDoorEndV2
namespace Go.Proofs.YtjmjilkpckbpeaaGreatDoor
open Go.RowKit

set_option maxRecDepth 100000 in
set_option maxHeartbeats 8000000 in
theorem stAgree_any (Af : Option Addr) (cf : Nat) (f : List App) (An : Option Addr) (cn : Nat) (n : List App) (As : Option Addr) (cs : Nat) (s : List Msg) (Ar : Option Addr) (cr : Nat) (r : List Msg) (Ah : Option Addr) (ch : Nat) (h : List Msg) (w : World) (hE : EA w Af cf f An cn n As cs s Ar cr r Ah ch h) (g : endsB f n s r h = true) :
    Calls Tryz.prog 115 #[.agg #[.slice Af f.length cf, .slice An n.length cn, .slice As s.length cs, .slice Ar r.length cr, .slice Ah h.length ch]] w (RS1 Strs.cells 1 w (agrL (viewF f r) n)) := by
  obtain ⟨i0, hi0, hv0, hv1, hv2⟩ := info_parts Strs.info
  have hnl := Lib.hid (ends_parts g).2.2.2.1
  have hlf := hE.lf
  have hX := cells5.new w (.slice Af f.length cf) (.slice An n.length cn) (.slice As s.length cs) (.slice Ar r.length cr) (.slice Ah h.length ch) 52 _ rfl
  have hB : Below w.heap.size w (w.alloc (.cells #[.slice Af f.length cf, .slice An n.length cn, .slice As s.length cs, .slice Ar r.length cr, .slice Ah h.length ch] 52)) := by go_grown
  have hE1 := hE.below hB
  obtain ⟨b0, b1, b2, b3, b4⟩ := id hX
  replace g := Lib.hid g
  go_enter Tryz.func115, Tryz.ntmps115
  go_wp2_with fail
  generalize w.alloc (.cells #[.slice Af f.length cf, .slice An n.length cn, .slice As s.length cs, .slice Ar r.length cr, .slice Ah h.length ch] 52) = w1 at hX hB hE1 b0 b1 b2 b3 b4 ⊢
  refine (stView_any Af cf f An cn n As cs s Ar cr r Ah ch h _ hE1 g.out).mono ?_
  rintro e w2 ⟨Av, cv, rfl, hV, _, hb⟩
  replace hX := hX.below hb
  have hz1 := hB.size
  replace hB := Below.on' hB hb
  clear b0 b1 b2 b3 b4 hE1 hb
  obtain ⟨b0, b1, b2, b3, b4⟩ := id hX
  have hvl := viewF_len f r
  have hzv := hB.size
  have hbl : w.heap.size < w2.heap.size := hX.lt
  have hVS := hV
  clear hV
  go_wp2_with fail
  go_loopw [3, 9] (fun o i wr => ∃ (k : Nat) (A : Option Addr) (c : Nat) (Lk : List ByteArray), k ≤ f.length ∧ i = .int .i64 k ∧ o = .slice A Lk.length c ∧ Lk.length ≤ k ∧ Own Strs.cells 1 9 wr w2.heap.size A c Lk ∧ Hid (Lk = agrL ((viewF f r).take k) (n.take k)) ∧ cells5 w.heap.size (.slice Af f.length cf) (.slice An n.length cn) (.slice As s.length cs) (.slice Ar r.length cr) (.slice Ah h.length ch) wr ∧ Below w.heap.size w wr ∧ Apps wr w1.heap.size w2.heap.size Av (viewF f r) ∧ w2.heap.size ≤ wr.heap.size) (fun _ i _ => f.length - (intOf i).toNat)
  case atStart => exact ⟨0, none, 0, [], Nat.zero_le _, rfl, rfl, Nat.zero_le _, Own.nil_, Lib.hid rfl, hX, hB, hVS, Nat.le_refl _⟩
  case round =>
    clear hX hB b0 b1 b2 b3 b4 hVS
    obtain ⟨k, A, c, Lk, hk, rfl, rfl, hlk, hO, HL, hX, hB, hV, hw2⟩ := hrel
    obtain ⟨b0, b1, b2, b3, b4⟩ := id hX
    by_cases hlt : k < f.length
    · obtain ⟨a, ha, _⟩ := get_lt (l := viewF f r) (i := k) (by omega)
      have hkn : k < n.length := by have := hnl.out; omega
      have hkn' : (k : Int) < n.length := by omega
      obtain ⟨x, hx, _⟩ := get_lt (l := n) (i := k) hkn
      have HC := Lib.hid (agrL_snoc ha hx)
      have hE1 := hE.below hB
      obtain ⟨ab, ao, rfl, _, alt, _, hf⟩ := (hV).at_ ha
      have a0 : wr.cell? ⟨ab, ao + k * 5, none⟩ = some (.string a.nm) := (hf 0 _ rfl).1
      have a1 : wr.cell? ⟨ab, ao + k * 5 + 1, none⟩ = some (.int .i64 a.kd) := (hf 1 _ rfl).1
      have a2 : wr.cell? ⟨ab, ao + k * 5 + 2, none⟩ = some (.int .i64 a.nd) := (hf 2 _ rfl).1
      have a3 : wr.cell? ⟨ab, ao + k * 5 + 3, none⟩ = some (.int .i64 a.cw) := (hf 3 _ rfl).1
      have a4 : wr.cell? ⟨ab, ao + k * 5 + 4, none⟩ = some (.int .i64 a.st) := (hf 4 _ rfl).1
      clear hf
      obtain ⟨xb, xo, rfl, _, xlt, _, hf⟩ := (hE1.Sn).at_ hx
      have x0 : wr.cell? ⟨xb, xo + k * 5, none⟩ = some (.string x.nm) := (hf 0 _ rfl).1
      have x1 : wr.cell? ⟨xb, xo + k * 5 + 1, none⟩ = some (.int .i64 x.kd) := (hf 1 _ rfl).1
      have x2 : wr.cell? ⟨xb, xo + k * 5 + 2, none⟩ = some (.int .i64 x.nd) := (hf 2 _ rfl).1
      have x3 : wr.cell? ⟨xb, xo + k * 5 + 3, none⟩ = some (.int .i64 x.cw) := (hf 3 _ rfl).1
      have x4 : wr.cell? ⟨xb, xo + k * 5 + 4, none⟩ = some (.int .i64 x.st) := (hf 4 _ rfl).1
      clear hf
      have hbn : Below wr.heap.size wr (wr.alloc (.cells #[.string a.nm, .int .i64 a.kd, .int .i64 a.nd, .int .i64 a.cw, .int .i64 a.st] 73)) := (Below.refl _ _).alloc (Nat.le_refl _) _
      have hBa := Below.on' hB hbn
      have hOa := hO.below hbn
      have hXa := hX.upto hX.lt hbn
      have hVa := hV.below hbn
      have hzn := hbn.size
      have b1 := hXa.2.1
      clear ha hx hE1
      by_cases hq : a.st = x.st
      · have HQ := Lib.hid (HC.out.trans (if_pos hq))
        have hq' : (a.st == x.st) = true := by simpa using hq
        clear HC hbn hq
        go_wp2_with fail
        go_quiet (fail)
        go_wp2_with (at_builtin; refine wpList_append_one _ rfl (.tmp 23) (.tmp 26) _ rfl i0 _ _ Tryz.underlying60 hi0 hv0 hv1 hv2 rfl (by omega) Strs.len Strs.one a.nm _ ((hOa.drewN _).alloc _) rfl rfl (new_cells_at _ _ _ _ _ (by simp) rfl) (by unfold maxLen; omega) (by omega) (by simp; omega) ?_; intro A' c' wb L' hL' hO3 hb2)
        have hlen2 : L'.length ≤ k + 1 := by rw [hL'.out, List.length_append]; simpa using hlk
        have hb3 : Below w2.heap.size (wr.alloc (.cells #[.string a.nm, .int .i64 a.kd, .int .i64 a.nd, .int .i64 a.cw, .int .i64 a.st] 73)) wb := (show Below w2.heap.size (wr.alloc (.cells #[.string a.nm, .int .i64 a.kd, .int .i64 a.nd, .int .i64 a.cw, .int .i64 a.st] 73)) ((wr.alloc (.cells #[.string a.nm, .int .i64 a.kd, .int .i64 a.nd, .int .i64 a.cw, .int .i64 a.st] 73)).drewN nq) from ⟨rfl, rfl, rfl, Nat.le_refl _, fun _ _ => rfl⟩).trans (((Below.refl _ ((wr.alloc (.cells #[.string a.nm, .int .i64 a.kd, .int .i64 a.nd, .int .i64 a.cw, .int .i64 a.st] 73)).drewN nq)).alloc (show w2.heap.size ≤ (wr.alloc (.cells #[.string a.nm, .int .i64 a.kd, .int .i64 a.nd, .int .i64 a.cw, .int .i64 a.st] 73)).heap.size by omega) (.cells #[.string a.nm] 9)).trans hb2)
        have hBc : Below w.heap.size w wb := hBa.trans (hb3.mono (by omega))
        have hXc := hXa.upto (by omega) hb3
        have hVc := hVa.keep (fun b _ h2 => hb3.block b h2) hb3.size
        have hzc : w2.heap.size ≤ wb.heap.size := by have := hb3.size; omega
        clear b1 hXa hBa hOa hb2 hb3 hVa a0 x0 a1 x1 a2 x2 a3 x3 a4 x4
        go_roundw
        case rel => exact ⟨k + 1, A', c', L', by omega, by go_num, rfl, hlen2, hO3, Lib.hid (by rw [hL'.out, HL.out, HQ.out]), hXc, hBc, hVc, hzc⟩
        case measure => simp [intOf]; omega
      · have HQ := Lib.hid (HC.out.trans (if_neg hq))
        have hq' : (a.st == x.st) = false := by simpa using hq
        clear HC hq hbn
        go_wp2_with fail
        go_quiet (fail)
        clear b1
        go_wp2
        go_roundw
        case rel => exact ⟨k + 1, A, c, Lk, by omega, by go_num, rfl, by omega, hOa.drewN _, Lib.hid (by rw [HQ.out, HL.out]), hXa, ⟨hBa.os, hBa.tape, hBa.output, hBa.size, hBa.block⟩, hVa, (show w2.heap.size ≤ (wr.alloc (.cells #[.string a.nm, .int .i64 a.kd, .int .i64 a.nd, .int .i64 a.cw, .int .i64 a.st] 73)).heap.size by omega)⟩
        case measure => simp [intOf]; omega
    · have HE : Hid (agrL (viewF f r) n = Lk) := Lib.hid (by rw [HL.out, agrL_all (by omega) (by have := hnl.out; omega)])
      clear HL hi0 hv0 hv1 hv2
      go_wp2
      go_ret
      exact RS1.own HE.out rfl Strs.len (hO.lift hzv) hB
set_option maxHeartbeats 4000000 in
theorem AgreeOn_spec (Af : Option Addr) (cf : Nat) (f : List App) (An : Option Addr) (cn : Nat) (n : List App) (As : Option Addr) (cs : Nat) (s : List Msg) (Ar : Option Addr) (cr : Nat) (r : List Msg) (Ah : Option Addr) (ch : Nat) (h : List Msg) (w : World) (hE : EA w Af cf f An cn n As cs s Ar cr r Ah ch h) :
    Calls Tryz.prog 37 #[.agg #[.slice Af f.length cf, .slice An n.length cn, .slice As s.length cs, .slice Ar r.length cr, .slice Ah h.length ch]] w (RS2 Strs.cells 1 w (agrT f n s r h).1 (agrT f n s r h).2) := by
  generalize hQ : agrT f n s r h = t
  replace hQ := Lib.hid hQ
  have hX := cells5.new w (.slice Af f.length cf) (.slice An n.length cn) (.slice As s.length cs) (.slice Ar r.length cr) (.slice Ah h.length ch) 52 _ rfl
  have hB : Below w.heap.size w (w.alloc (.cells #[.slice Af f.length cf, .slice An n.length cn, .slice As s.length cs, .slice Ar r.length cr, .slice Ah h.length ch] 52)) := by go_grown
  replace hE := hE.below hB
  obtain ⟨b0, b1, b2, b3, b4⟩ := id hX
  go_enter Tryz.func37, Tryz.ntmps37
  go_wp2_with fail
  refine (stGood_any Af cf f An cn n As cs s Ar cr r Ah ch h _ hE.lf hE.mf hE.Sf hE.ln hE.mn hE.Sn hE.ls hE.ms hE.Ss hE.ks hE.lr hE.mr hE.Sr hE.kr hE.lh hE.mh hE.Sh hE.kh).mono ?_
  rintro e w1 ⟨rfl, hb⟩
  replace hX := hX.below hb
  replace hE := hE.below hb
  replace hB := Below.on' hB hb
  clear b0 b1 b2 b3 b4 hb
  obtain ⟨b0, b1, b2, b3, b4⟩ := id hX
  by_cases g : endsB f n s r h = true
  rotate_left
  · have g : endsB f n s r h = false := by simpa using g
    obtain rfl : ([], false) = t := (agrT_no g).symm.trans hQ.out
    rw [g]
    go_wp2
    go_ret2
    exact RS2.nil_ rfl rfl hB
  rw [g]
  obtain rfl := (agrT_yes g).symm.trans hQ.out
  clear hQ
  replace g := Lib.hid g
  go_wp2_with fail
  refine (stAgree_any Af cf f An cn n As cs s Ar cr r Ah ch h _ hE g.out).mono ?_
  rintro e w2 ⟨A, c, rfl, hS, hc, hb⟩
  have hz := hB.size
  have hB2 := Below.on' hB hb
  go_wp2
  go_ret2
  exact RS2.of rfl rfl rfl hS hz hc hB2
end Go.Proofs.YtjmjilkpckbpeaaGreatDoor

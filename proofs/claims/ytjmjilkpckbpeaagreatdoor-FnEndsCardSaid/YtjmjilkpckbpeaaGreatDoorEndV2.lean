/- The view, the reference. Conditions: at most 2^20 in each list, texts of at most 2^20; the listed variables as Said has them. -/
import Derived.Test.YtjmjilkpckbpeaaGreatDoorEndV
namespace Go.Proofs.YtjmjilkpckbpeaaGreatDoor
open Go.RowKit

set_option maxRecDepth 100000 in
set_option maxHeartbeats 8000000 in
theorem stView_any (Af : Option Addr) (cf : Nat) (f : List App) (An : Option Addr) (cn : Nat) (n : List App) (As : Option Addr) (cs : Nat) (s : List Msg) (Ar : Option Addr) (cr : Nat) (r : List Msg) (Ah : Option Addr) (ch : Nat) (h : List Msg) (w : World) (hE : EA w Af cf f An cn n As cs s Ar cr r Ah ch h) (g : endsB f n s r h = true) :
    Calls Tryz.prog 114 #[.agg #[.slice Af f.length cf, .slice An n.length cn, .slice As s.length cs, .slice Ar r.length cr, .slice Ah h.length ch]] w (RS1 App.cells 5 w (viewF f r)) := by
  obtain ⟨i0, hi0, hv0, hv1, hv2⟩ := info_parts App.info
  have p1 := (ends_parts g).1
  have p3 := (ends_parts g).2.2.1
  have hOT : Hid (∀ a ∈ f, ordT s r h a.nm = (ordF r a.nm, true)) := Lib.hid fun a ha => (ordT_yes (by rw [p3, app_name (fleet_app p1 ha)]; rfl)).symm
  have hlf := hE.lf
  clear p1 p3 g
  have hX := cells5.new w (.slice Af f.length cf) (.slice An n.length cn) (.slice As s.length cs) (.slice Ar r.length cr) (.slice Ah h.length ch) 52 _ rfl
  have hB : Below w.heap.size w (w.alloc (.cells #[.slice Af f.length cf, .slice An n.length cn, .slice As s.length cs, .slice Ar r.length cr, .slice Ah h.length ch] 52)) := by go_grown
  obtain ⟨b0, b1, b2, b3, b4⟩ := id hX
  go_enter Tryz.func114, Tryz.ntmps114
  go_wp2_with fail
  go_loopw [3, 11] (fun o i wr => ∃ (k : Nat) (A : Option Addr) (c : Nat) (Lk : List App), k ≤ f.length ∧ i = .int .i64 k ∧ o = .slice A Lk.length c ∧ Lk.length ≤ k ∧ Own App.cells 5 73 wr (w.heap.size + 1) A c Lk ∧ Hid (Lk = (viewF f r).take k) ∧ cells5 w.heap.size (.slice Af f.length cf) (.slice An n.length cn) (.slice As s.length cs) (.slice Ar r.length cr) (.slice Ah h.length ch) wr ∧ Below w.heap.size w wr) (fun _ i _ => f.length - (intOf i).toNat)
  case atStart => exact ⟨0, none, 0, [], Nat.zero_le _, rfl, rfl, Nat.zero_le _, Own.nil_, Lib.hid rfl, hX, hB⟩
  case round =>
    clear hX hB b0 b1 b2 b3 b4
    obtain ⟨k, A, c, Lk, hk, rfl, rfl, hlk, hO, HL, hX, hB⟩ := hrel
    have hz := hB.size
    have hkx := hX.lt
    obtain ⟨b0, b1, b2, b3, b4⟩ := id hX
    by_cases hlt : k < f.length
    · obtain ⟨a, ha, ham⟩ := get_lt hlt
      have HV := Lib.hid (viewF_at (r := r) ha)
      have HO := Lib.hid (hOT.out a ham)
      have hsn := hE.mf a ham
      have hE1 := hE.below hB
      obtain ⟨ab, ao, rfl, _, _, _, hf⟩ := hE1.Sf.at_ ha
      have a0 : wr.cell? ⟨ab, ao + k * 5, none⟩ = some (.string a.nm) := (hf 0 _ rfl).1
      have a1 : wr.cell? ⟨ab, ao + k * 5 + 1, none⟩ = some (.int .i64 a.kd) := (hf 1 _ rfl).1
      have a2 : wr.cell? ⟨ab, ao + k * 5 + 2, none⟩ = some (.int .i64 a.nd) := (hf 2 _ rfl).1
      have a3 : wr.cell? ⟨ab, ao + k * 5 + 3, none⟩ = some (.int .i64 a.cw) := (hf 3 _ rfl).1
      have a4 : wr.cell? ⟨ab, ao + k * 5 + 4, none⟩ = some (.int .i64 a.st) := (hf 4 _ rfl).1
      clear hf ha ham
      have hbn : Below wr.heap.size wr (wr.alloc (.cells #[.string a.nm, .int .i64 a.kd, .int .i64 a.nd, .int .i64 a.cw, .int .i64 a.st] 73)) := (Below.refl _ _).alloc (Nat.le_refl _) _
      have hY := BN.new wr #[.string a.nm, .int .i64 a.kd, .int .i64 a.nd, .int .i64 a.cw, .int .i64 a.st] 73 _ rfl
      have hBa := Below.on' hB hbn
      have hOa := hO.below hbn
      have hXa := hX.below hbn
      have hEa := hE1.below hbn
      have hDis : Dis A (some ⟨wr.heap.size, 0, none⟩) := dis_lt hO.blk
      go_wp2_with fail
      refine (InOrder_spec As cs s Ar cr r Ah ch h a.nm _ hEa.ls hEa.ms hEa.Ss hEa.ks hEa.lr hEa.mr hEa.Sr hEa.kr hEa.lh hEa.mh hEa.Sh hEa.kh hsn).mono ?_
      rw [HO.out]
      rintro e w2 ⟨A2, c2, rfl, hO2, _, hb⟩
      dsimp only
      have hY2 := hY.upto (hY.lt (by simp)) hb
      have hB2 := Below.on' hBa hb
      have hOw := hOa.below hb
      have hX2 := hXa.below hb
      have hz2 := hb.size
      have hsz : wr.heap.size < w2.heap.size := by simp at hz2; omega
      have hlen := ordF_len r a.nm
      clear hY hBa hOa hXa hEa hE1 hbn hb HO b0 b1 b2 b3 b4 a0 a1 a2 a3 a4 hO hX hB
      obtain ⟨b0, b1, b2, b3, b4⟩ := id hX2
      obtain ⟨y0, y1, y2, y3, y4⟩ : cells5 wr.heap.size (.string a.nm) (.int .i64 a.kd) (.int .i64 a.nd) (.int .i64 a.cw) (.int .i64 a.st) w2 := ⟨(hY2 0 _ rfl).1, (hY2 1 _ rfl).1, (hY2 2 _ rfl).1, (hY2 3 _ rfl).1, (hY2 4 _ rfl).1⟩
      by_cases hg : (ordF r a.nm).length = 0
      · have HW : Hid (viewA r a = a) := Lib.hid (viewA_none hg)
        rw [hg]
        clear hg hlen hO2 hY2 hDis
        go_wp2_with (at_builtin; refine wpList_append_one _ rfl (.tmp 34) (.tmp 36) _ rfl i0 _ _ Tryz.underlying50 hi0 hv0 hv1 hv2 rfl (by omega) App.len App.one a _ (hOw.alloc _) rfl rfl (new_cells _ _ _ _ rfl) (by unfold maxLen; omega) (by omega) (by simp; omega) ?_; intro A' c' wb L' hL' hO3 hb2)
        have hlen2 : L'.length ≤ k + 1 := by rw [hL'.out, List.length_append]; simpa using hlk
        have hBc : Below w.heap.size w wb := (hB2.alloc hB2.size (.cells #[.string a.nm, .int .i64 a.kd, .int .i64 a.nd, .int .i64 a.cw, .int .i64 a.st] 73)).trans (hb2.mono (by omega))
        have hXc := (hX2.alloc (.cells #[.string a.nm, .int .i64 a.kd, .int .i64 a.nd, .int .i64 a.cw, .int .i64 a.st] 73)).upto (Nat.lt_succ_self _) hb2
        clear hX2 hB2 hOw hb2 y0 y1 y2 y3 y4 b0 b1 b2 b3 b4
        go_roundw
        case rel => exact ⟨k + 1, A', c', L', by omega, by go_num, rfl, hlen2, hO3, Lib.hid (by rw [hL'.out, HL.out, take_snoc HV.out, HW.out]), hXc, hBc⟩
        case measure => simp [intOf]; omega
      · obtain ⟨y, hy, hym⟩ := get_lt (l := ordF r a.nm) (i := (ordF r a.nm).length - 1) (by omega)
        have HW := Lib.hid (viewA_last hy)
        obtain ⟨yb, yo, rfl, _, ylt, _, yc, _⟩ := Strs.at1 hO2 hy
        have hg' : ((ordF r a.nm).length : Int) > 0 := by omega
        have hwrap : wrap64 (((ordF r a.nm).length : Int) - 1) = (((ordF r a.nm).length - 1 : Nat) : Int) := by unfold wrap64; omega
        have hql : (ordF r a.nm).length - 1 < (ordF r a.nm).length := by omega
        clear hy hym hO2
        generalize (ordF r a.nm).length = M at yc hwrap hql hg hg' hlen ⊢
        go_wp2_with fail
        refine (stParse_any y _).mono ?_
        rintro e w3 ⟨v, rfl, HS, hb⟩
        obtain rfl : v = stF y := stF_of HS.out
        have hY3 := hY2.upto (hY2.lt (by simp)) hb
        have hB3 := Below.on' hB2 hb
        have hX3 := hX2.below hb
        have hOx := hOw.below hb
        have hz3 := hb.size
        clear hY2 hB2 hX2 hOw hb HS y0 y1 y2 y3 y4 b0 b1 b2 b3 b4 yc
        obtain ⟨y0, y1, y2, y3, y4⟩ : cells5 wr.heap.size (.string a.nm) (.int .i64 a.kd) (.int .i64 a.nd) (.int .i64 a.cw) (.int .i64 a.st) w3 := ⟨(hY3 0 _ rfl).1, (hY3 1 _ rfl).1, (hY3 2 _ rfl).1, (hY3 3 _ rfl).1, (hY3 4 _ rfl).1⟩
        have z4 := (hY3 4 _ rfl).2
        have hFr : Fr wr.heap.size (wr.heap.size + 1) w3 (w3.setCell ⟨wr.heap.size, 4, none⟩ (.int .i64 (stF y))) := (Fr.refl _ _ _).setCell ⟨by simp, by simp⟩ _
        have hOs := hOx.apart hFr hDis
        have hBs := hB3.trans (hFr.below (B := w.heap.size) (by omega) (by omega))
        have hXs := hX3.off (p := ⟨wr.heap.size, 4, none⟩) (by simp; omega) (.int .i64 (stF y))
        have hzs := hFr.size
        clear hY3 hB3 hX3 hOx hDis hFr
        generalize hgen : stF y = vy at *
        go_wp2_with (at_builtin; refine wpList_append_one _ rfl (.tmp 34) (.tmp 36) _ rfl i0 _ _ Tryz.underlying50 hi0 hv0 hv1 hv2 rfl (by omega) App.len App.one (withSt a vy) _ (hOs.alloc _) rfl rfl (new_cells_at _ _ _ _ _ (by simp) rfl) (by unfold maxLen; omega) (by omega) (by simp [World.setCell]; omega) ?_; intro A' c' wb L' hL' hO3 hb2)
        have hlen2 : L'.length ≤ k + 1 := by rw [hL'.out, List.length_append]; simpa using hlk
        have hBc : Below w.heap.size w wb := (hBs.alloc hBs.size (.cells #[.string a.nm, .int .i64 a.kd, .int .i64 a.nd, .int .i64 a.cw, .int .i64 vy] 73)).trans (hb2.mono (by omega))
        have hXc := (hXs.alloc (.cells #[.string a.nm, .int .i64 a.kd, .int .i64 a.nd, .int .i64 a.cw, .int .i64 vy] 73)).upto (Nat.lt_succ_self _) hb2
        clear hXs hBs hOs hb2 y0 y1 y2 y3 y4 z4
        go_roundw
        case rel => exact ⟨k + 1, A', c', L', by omega, by go_num, rfl, hlen2, hO3, Lib.hid (by rw [hL'.out, HL.out, take_snoc HV.out, HW.out]), hXc, hBc⟩
        case measure => simp [intOf]; omega
    · have HE : Hid (viewF f r = Lk) := Lib.hid (by rw [HL.out, List.take_of_length_le (by rw [viewF_len]; omega)])
      clear HL hi0 hv0 hv1 hv2
      go_wp2
      go_ret
      exact RS1.own HE.out rfl App.len (hO.lift (by omega)) hB
set_option maxHeartbeats 4000000 in
theorem RoomView_spec (Af : Option Addr) (cf : Nat) (f : List App) (An : Option Addr) (cn : Nat) (n : List App) (As : Option Addr) (cs : Nat) (s : List Msg) (Ar : Option Addr) (cr : Nat) (r : List Msg) (Ah : Option Addr) (ch : Nat) (h : List Msg) (w : World) (hE : EA w Af cf f An cn n As cs s Ar cr r Ah ch h) :
    Calls Tryz.prog 35 #[.agg #[.slice Af f.length cf, .slice An n.length cn, .slice As s.length cs, .slice Ar r.length cr, .slice Ah h.length ch]] w (RS2 App.cells 5 w (viewT f n s r h).1 (viewT f n s r h).2) := by
  generalize hQ : viewT f n s r h = t
  replace hQ := Lib.hid hQ
  have hX := cells5.new w (.slice Af f.length cf) (.slice An n.length cn) (.slice As s.length cs) (.slice Ar r.length cr) (.slice Ah h.length ch) 52 _ rfl
  have hB : Below w.heap.size w (w.alloc (.cells #[.slice Af f.length cf, .slice An n.length cn, .slice As s.length cs, .slice Ar r.length cr, .slice Ah h.length ch] 52)) := by go_grown
  replace hE := hE.below hB
  obtain ⟨b0, b1, b2, b3, b4⟩ := id hX
  go_enter Tryz.func35, Tryz.ntmps35
  go_wp2_with fail
  refine (stGood_any Af cf f An cn n As cs s Ar cr r Ah ch h _ hE.lf hE.mf hE.Sf hE.ln hE.mn hE.Sn hE.ls hE.ms hE.Ss hE.ks hE.lr hE.mr hE.Sr hE.kr hE.lh hE.mh hE.Sh hE.kh).mono ?_
  rintro e w1 ⟨rfl, hb⟩
  replace hX := hX.below hb
  replace hE := hE.below hb
  replace hB := Below.on' hB hb
  clear b0 b1 b2 b3 b4 hb
  obtain ⟨b0, b1, b2, b3, b4⟩ := id hX
  by_cases g : endsB f n s r h = true
  rotate_left
  · have g : endsB f n s r h = false := by simpa using g
    obtain rfl : ([], false) = t := (viewT_no g).symm.trans hQ.out
    rw [g]
    go_wp2
    go_ret2
    exact RS2.nil_ rfl rfl hB
  rw [g]
  obtain rfl := (viewT_yes g).symm.trans hQ.out
  clear hQ
  replace g := Lib.hid g
  go_wp2_with fail
  refine (stView_any Af cf f An cn n As cs s Ar cr r Ah ch h _ hE g.out).mono ?_
  rintro e w2 ⟨A, c, rfl, hS, hc, hb⟩
  have hz := hB.size
  have hB2 := Below.on' hB hb
  go_wp2
  go_ret2
  exact RS2.of rfl rfl rfl hS hz hc hB2
end Go.Proofs.YtjmjilkpckbpeaaGreatDoor

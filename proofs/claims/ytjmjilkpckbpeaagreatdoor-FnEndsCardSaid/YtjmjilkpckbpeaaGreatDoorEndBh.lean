/- BehindBy, on both sides. Conditions: at most 2^20 in each list, texts of at most 2^20; the listed variables as Said has them. -/
import Derived.Test.YtjmjilkpckbpeaaGreatDoorLE
import Derived.Test.YtjmjilkpckbpeaaGreatDoorLM
import Derived.Test.YtjmjilkpckbpeaaGreatDoorLP
import Derived.Test.YtjmjilkpckbpeaaGreatDoorLD
namespace Go.Proofs.YtjmjilkpckbpeaaGreatDoor
open Go.RowKit

theorem cells5.upto {b : Nat} {v0 v1 v2 v3 v4 : Value} {X X' : World} {B : Nat} (a : cells5 b v0 v1 v2 v3 v4 X) (hB : b < B) (hb : Below B X X') : cells5 b v0 v1 v2 v3 v4 X' :=
  have e := hb.block b hB
  ⟨(World.cell?_of_block (a := ⟨b, 0, none⟩) e).trans a.1, (World.cell?_of_block (a := ⟨b, 1, none⟩) e).trans a.2.1, (World.cell?_of_block (a := ⟨b, 2, none⟩) e).trans a.2.2.1, (World.cell?_of_block (a := ⟨b, 3, none⟩) e).trans a.2.2.2.1, (World.cell?_of_block (a := ⟨b, 4, none⟩) e).trans a.2.2.2.2⟩
/-- A block apart from the row may change. -/
theorem Own.apart {α : Type} {E : α → List Value} {k : Nat} {T : TypeId} {w w' : World} {base : Nat} {A : Option Addr} {c : Nat} {l : List α} (hO : Own E k T w base A c l) {g : Nat} (hk : Fr g (g + 1) w w') (hB : Dis A (some ⟨g, 0, none⟩)) : Own E k T w' base A c l := by
  refine ⟨hO.1, ?_⟩
  rcases hO.2 with h1 | ⟨q, cap, cur, e, hb, hg, h2⟩
  · exact .inl h1
  · have e1 : A = some ⟨q, 0, none⟩ := by injection e
    have hne : q ≠ g := hB _ _ e1 rfl
    have hlt := hO.lt _ e1
    exact .inr ⟨q, cap, cur, e, hb, (hk.block q hlt (by omega)).trans hg, h2⟩
theorem findApp1_any (x : App) (p1 : Nat) (nm : ByteArray) (w : World) (q1 : w.cell? ⟨p1, 0, none⟩ = some (.string nm)) :
    Calls Tryz.prog 152 #[.agg #[.string x.nm, .int .i64 x.kd, .int .i64 x.nd, .int .i64 x.cw, .int .i64 x.st], .pointer (some ⟨p1, 0, none⟩)] w fun e w' => e = .returned (.bool (decide (x.nm.toList = nm.toList))) ∧ Below w.heap.size w w' := by
  have k1 : p1 < w.heap.size := World.block_lt_of_cell? _ _ q1
  by_cases hs : x.nm.toList = nm.toList
  · have HF : Hid (decide (x.nm.toList = nm.toList) = true) := Lib.hid (decide_eq_true hs)
    go_enter Tryz.func152, Tryz.ntmps152
    go_wp2
    go_ret
    exact ⟨by rw [HF.out]; rfl, by go_grown⟩
  · have HF : Hid (decide (x.nm.toList = nm.toList) = false) := Lib.hid (decide_eq_false hs)
    have hs' : (x.nm.toList == nm.toList) = false := by simpa using hs
    clear hs
    go_enter Tryz.func152, Tryz.ntmps152
    go_wp2
    go_ret
    exact ⟨by rw [HF.out]; rfl, by go_grown⟩
theorem findApp1_enters : Enters 152 := enters Tryz.func152 (by kernel_rfl) (by kernel_rfl)
set_option maxHeartbeats 2000000 in
theorem findAppliance_any (A : Option Addr) (c : Nat) (l : List App) (nm : ByteArray) (w : World) (hl : l.length ≤ 1048576) (hS : Apps w 0 w.heap.size A l) :
    Calls Tryz.prog 120 #[.slice A l.length c, .string nm] w (RV w (.int .i64 (idxG (fun a : App => decide (a.nm.toList = nm.toList)) l 0))) := by
  have q1 : (w.alloc (.cells #[.string nm] 9)).cell? ⟨w.heap.size, 0, none⟩ = some (.string nm) := by simp
  have hS1 := hS.alloc (.cells #[.string nm] 9)
  have hB0 : Below w.heap.size w (w.alloc (.cells #[.string nm] 9)) := by go_grown
  go_enter Tryz.func120, Tryz.ntmps120
  go_wp2_with fail
  generalize w.alloc (.cells #[.string nm] 9) = W at q1 hS1 hB0 ⊢
  have hP : App.Pred 152 #[.pointer (some ⟨w.heap.size, 0, none⟩)] (fun a : App => decide (a.nm.toList = nm.toList)) 0 0 l W := fun V x _ hF =>
    findApp1_any x _ nm V ((World.cell?_of_block (hF.block _ (World.block_lt_of_cell? _ _ q1) (by omega))).trans q1)
  refine (App.IndexFunc_any _ _ (fun a : App => decide (a.nm.toList = nm.toList)) A c _ _ 0 0 l W findApp1_enters hl hS1 hP).mono ?_
  rintro e w1 ⟨rfl, hb⟩
  clear hP q1
  go_wp2
  go_ret
  exact RV.mk rfl (Below.on' hB0 hb)
set_option maxHeartbeats 4000000 in
theorem BehindBy_spec (Af : Option Addr) (cf : Nat) (f : List App) (An : Option Addr) (cn : Nat) (n : List App) (As : Option Addr) (cs : Nat) (s : List Msg) (Ar : Option Addr) (cr : Nat) (r : List Msg) (Ah : Option Addr) (ch : Nat) (h : List Msg) (nm : ByteArray) (w : World) (hE : EA w Af cf f An cn n As cs s Ar cr r Ah ch h) (hsn : nm.size ≤ 1048576) :
    Calls Tryz.prog 47 #[.agg #[.slice Af f.length cf, .slice An n.length cn, .slice As s.length cs, .slice Ar r.length cr, .slice Ah h.length ch], .string nm] w (RV w (.tuple #[.int .i64 (behT f n s r h nm).1, .bool (behT f n s r h nm).2])) := by
  generalize hQ : behT f n s r h nm = t
  replace hQ := Lib.hid hQ
  have hX := cells5.new w (.slice Af f.length cf) (.slice An n.length cn) (.slice As s.length cs) (.slice Ar r.length cr) (.slice Ah h.length ch) 52 _ rfl
  have hB : Below w.heap.size w (w.alloc (.cells #[.slice Af f.length cf, .slice An n.length cn, .slice As s.length cs, .slice Ar r.length cr, .slice Ah h.length ch] 52)) := by go_grown
  replace hE := hE.below hB
  obtain ⟨b0, b1, b2, b3, b4⟩ := id hX
  go_enter Tryz.func47, Tryz.ntmps47
  go_wp2_with fail
  refine (stGood_any Af cf f An cn n As cs s Ar cr r Ah ch h _ hE.lf hE.mf hE.Sf hE.ln hE.mn hE.Sn hE.ls hE.ms hE.Ss hE.ks hE.lr hE.mr hE.Sr hE.kr hE.lh hE.mh hE.Sh hE.kh).mono ?_
  rintro e w1 ⟨rfl, hb⟩
  replace hX := hX.below hb
  replace hE := hE.below hb
  replace hB := Below.on' hB hb
  clear b0 b1 b2 b3 b4 hb
  obtain ⟨b0, b1, b2, b3, b4⟩ := id hX
  by_cases g : endsB f n s r h = true
  rotate_left
  · have g : endsB f n s r h = false := by simpa using g
    obtain rfl : (0, false) = t := (behT_no1 g).symm.trans hQ.out
    rw [g]
    go_wp2
    go_ret2
    exact RV.mk rfl hB
  rw [g]
  go_wp2_with fail
  refine (apFind_any Af cf f nm _ hE.lf hE.Sf).mono ?_
  rintro e w2 ⟨rfl, hb⟩
  replace hX := hX.below hb
  replace hE := hE.below hb
  replace hB := Below.on' hB hb
  clear b0 b1 b2 b3 b4 hb
  obtain ⟨b0, b1, b2, b3, b4⟩ := id hX
  have HI := Lib.hid (idxG_any (fun a : App => decide (a.nm.toList = nm.toList)) f)
  generalize idxG (fun a : App => decide (a.nm.toList = nm.toList)) f 0 = I at HI
  by_cases g5 : I < 0
  · obtain rfl : (0, false) = t := (behT_no2 (by rw [← HI.out]; exact decide_eq_false (by omega))).symm.trans hQ.out
    clear HI g
    go_wp2
    go_ret2
    exact RV.mk rfl hB
  have gk : (f.any (fun a : App => decide (a.nm.toList = nm.toList))) = true := by rw [← HI.out]; exact decide_eq_true (by omega)
  obtain ⟨p1, _, p3, _⟩ := ends_parts g
  have hO : Hid (ordT s r h nm = (ordF r nm, true)) := Lib.hid (ordT_yes (by rw [p3, name_known p1 gk]; rfl)).symm
  obtain rfl := (behT_yes g gk).symm.trans hQ.out
  have hz1 := sentS_len s nm
  have hz2 := ordF_len r nm
  have hz3 := hE.ls
  replace g5 : 0 ≤ I := by omega
  clear HI g gk p1 p3
  go_wp2_with fail
  refine (InOrder_spec As cs s Ar cr r Ah ch h nm _ hE.ls hE.ms hE.Ss hE.ks hE.lr hE.mr hE.Sr hE.kr hE.lh hE.mh hE.Sh hE.kh hsn).mono ?_
  rw [hO.out]
  rintro e w3 ⟨A1, c1, rfl, _, _, hb⟩
  replace hX := hX.below hb
  replace hE := hE.below hb
  replace hB := Below.on' hB hb
  clear b0 b1 b2 b3 b4 hb
  obtain ⟨b0, b1, b2, b3, b4⟩ := id hX
  clear hO
  dsimp only
  go_wp2_with fail
  refine (stSent_any As cs s _ _ nm _ hE.ls hE.Ss).mono ?_
  rintro e w4 ⟨A2, c2, rfl, _, _, hb⟩
  replace hB := Below.on' hB hb
  generalize hX1 : (sentS s nm).length = X1 at hz1 ⊢
  generalize hX2 : (ordF r nm).length = X2 at hz2 ⊢
  replace hX1 := Lib.hid hX1
  replace hX2 := Lib.hid hX2
  go_wp2
  go_ret2
  exact RV.mk (by rw [hX1.out, hX2.out]; rfl) hB
set_option maxHeartbeats 4000000 in
theorem BehindBy_impl (Af : Option Addr) (cf : Nat) (f : List App) (An : Option Addr) (cn : Nat) (n : List App) (As : Option Addr) (cs : Nat) (s : List Msg) (Ar : Option Addr) (cr : Nat) (r : List Msg) (Ah : Option Addr) (ch : Nat) (h : List Msg) (nm : ByteArray) (w : World) (hE : EA w Af cf f An cn n As cs s Ar cr r Ah ch h) (_hsn : nm.size ≤ 1048576) (hT : Said w) :
    Calls Tryz.prog 46 #[.agg #[.slice Af f.length cf, .slice An n.length cn, .slice As s.length cs, .slice Ar r.length cr, .slice Ah h.length ch], .string nm] w (RV w (.tuple #[.int .i64 (behT f n s r h nm).1, .bool (behT f n s r h nm).2])) := by
  generalize hQ : behT f n s r h nm = t
  replace hQ := Lib.hid hQ
  have hB : Below w.heap.size w (w.alloc (.cells #[.slice Af f.length cf, .slice An n.length cn, .slice As s.length cs, .slice Ar r.length cr, .slice Ah h.length ch] 52)) := by go_grown
  have hN := BN.new w #[.slice Af f.length cf, .slice An n.length cn, .slice As s.length cs, .slice Ar r.length cr, .slice Ah h.length ch] 52 _ rfl
  replace hE := hE.below hB
  replace hT := hT.below hB
  have b0 := (hN 0 _ rfl).1
  have b1 := (hN 1 _ rfl).1
  have b2 := (hN 2 _ rfl).1
  have b3 := (hN 3 _ rfl).1
  have b4 := (hN 4 _ rfl).1
  go_enter Tryz.func46, Tryz.ntmps46
  go_wp2_with fail
  refine (areEnds_any Af cf f An cn n As cs s Ar cr r Ah ch h _ w.heap.size hN hE.lf hE.mf hE.Sf hE.ln hE.mn hE.Sn hE.ls hE.ms hE.Ss hE.ks hE.lr hE.mr hE.Sr hE.kr hE.lh hE.mh hE.Sh hE.kh hT).mono ?_
  rintro e w1 ⟨rfl, hb⟩
  replace hN := hN.upto (hN.lt (by simp)) hb
  replace hE := hE.below hb
  replace hT := hT.below hb
  replace hB := Below.on' hB hb
  clear b0 b1 b2 b3 b4 hb
  have b0 := (hN 0 _ rfl).1
  have b1 := (hN 1 _ rfl).1
  have b2 := (hN 2 _ rfl).1
  have b3 := (hN 3 _ rfl).1
  have b4 := (hN 4 _ rfl).1
  by_cases g : endsB f n s r h = true
  rotate_left
  · have g : endsB f n s r h = false := by simpa using g
    obtain rfl : (0, false) = t := (behT_no1 g).symm.trans hQ.out
    rw [g]
    go_wp2
    go_ret2
    exact RV.mk rfl hB
  rw [g]
  go_wp2_with fail
  refine (findAppliance_any Af cf f nm _ hE.lf hE.Sf).mono ?_
  rintro e w2 ⟨rfl, hb⟩
  replace hN := hN.upto (hN.lt (by simp)) hb
  replace hE := hE.below hb
  replace hB := Below.on' hB hb
  clear b0 b1 b2 b3 b4 hb
  have b0 := (hN 0 _ rfl).1
  have b1 := (hN 1 _ rfl).1
  have b2 := (hN 2 _ rfl).1
  have b3 := (hN 3 _ rfl).1
  have b4 := (hN 4 _ rfl).1
  clear hT
  have HI := Lib.hid (idxG_any (fun a : App => decide (a.nm.toList = nm.toList)) f)
  generalize idxG (fun a : App => decide (a.nm.toList = nm.toList)) f 0 = I at HI
  by_cases g5 : I < 0
  · obtain rfl : (0, false) = t := (behT_no2 (by rw [← HI.out]; exact decide_eq_false (by omega))).symm.trans hQ.out
    clear HI g
    go_wp2
    go_ret2
    exact RV.mk rfl hB
  have gk : (f.any (fun a : App => decide (a.nm.toList = nm.toList))) = true := by rw [← HI.out]; exact decide_eq_true (by omega)
  obtain ⟨p1, _, p3, _⟩ := ends_parts g
  have G := ChanG.of p3
  have hnr : ∀ x ∈ r, x.n ≤ 999 := fun x hx => (G.num x (G.rs x hx)).2
  obtain rfl := (behT_yes g gk).symm.trans hQ.out
  have hz1 := sentS_len s nm
  have hz2 := ordF_len r nm
  have hz3 := hE.ls
  replace g5 : 0 ≤ I := by omega
  clear HI g gk p1 p3 hQ G
  go_wp2_with fail
  go_loopw [6, 22] (fun q i wr => ∃ (k x : Nat), k ≤ s.length ∧ i = .int .i64 k ∧ q = .int .i64 x ∧ x ≤ k ∧ Hid (x = (sentS (s.take k) nm).length) ∧ BN w.heap.size [.slice Af f.length cf, .slice An n.length cn, .slice As s.length cs, .slice Ar r.length cr, .slice Ah h.length ch] wr ∧ Below w.heap.size w wr ∧ EA wr Af cf f An cn n As cs s Ar cr r Ah ch h) (fun _ i _ => s.length - (intOf i).toNat)
  case atStart => exact ⟨0, 0, Nat.zero_le _, rfl, rfl, Nat.le_refl _, Lib.hid rfl, hN, hB, hE⟩
  case round =>
    clear hN hB hE b0 b1 b2 b3 b4
    obtain ⟨k, x, hk, rfl, rfl, hx, HX, hN, hB, hE⟩ := hrel
    have hz := hB.size
    have b0 := (hN 0 _ rfl).1
    have b1 := (hN 1 _ rfl).1
    have b2 := (hN 2 _ rfl).1
    have b3 := (hN 3 _ rfl).1
    have b4 := (hN 4 _ rfl).1
    by_cases hlt : k < s.length
    · obtain ⟨m, hm, _⟩ := get_lt hlt
      have HC := Lib.hid (sentS_snoc hm nm)
      obtain ⟨b, off, rfl, _, _, _, hf⟩ := hE.Ss.at_ hm
      have c0 : wr.cell? ⟨b, off + k * 3, none⟩ = some (.string m.f) := (hf 0 _ rfl).1
      have c1 : wr.cell? ⟨b, off + k * 3 + 1, none⟩ = some (.int .i64 m.n) := (hf 1 _ rfl).1
      have c2 : wr.cell? ⟨b, off + k * 3 + 2, none⟩ = some (.string m.b) := (hf 2 _ rfl).1
      have hb : Below wr.heap.size wr (wr.alloc (.cells #[.string m.f, .int .i64 m.n, .string m.b] 33)) := (Below.refl _ _).alloc (Nat.le_refl _) _
      have hBa := Below.on' hB hb
      have hNa := hN.upto (hN.lt (by simp)) hb
      have hEa := hE.below hb
      clear hf hm hb hz1 hz2
      by_cases hq : m.f.toList = nm.toList
      · have HQ : Hid (x + 1 = (sentS (s.take (k + 1)) nm).length) := Lib.hid (by rw [HC.out, if_pos hq, List.length_append, ← HX.out]; rfl)
        clear HC HX
        go_wp2
        go_roundw
        case rel => exact ⟨k + 1, x + 1, by omega, by go_num, by go_num, by omega, HQ, hNa, hBa, hEa⟩
        case measure => simp [intOf]; omega
      · have HQ : Hid (x = (sentS (s.take (k + 1)) nm).length) := Lib.hid (by rw [HC.out, if_neg hq]; exact HX.out)
        have hq' : (m.f.toList == nm.toList) = false := by simpa using hq
        clear HC HX hq
        go_wp2
        go_roundw
        case rel => exact ⟨k + 1, x, by omega, by go_num, rfl, by omega, HQ, hNa, hBa, hEa⟩
        case measure => simp [intOf]; omega
    · have HE : Hid ((sentS s nm).length = x) := Lib.hid (by rw [HX.out, List.take_of_length_le (by omega)])
      clear HX
      go_wp2_with fail
      refine (inOrder_any w.heap.size 2 _ _ Ar cr r nm _ ⟨(hN 2 _ rfl).1, (hN 3 _ rfl).1, (hN 4 _ rfl).1, (hN 2 _ rfl).2, (hN 3 _ rfl).2, (hN 4 _ rfl).2⟩ hE.lr hE.Sr hnr).mono ?_
      rintro e w4 ⟨A2, c2, rfl, _, _, hb⟩
      have hB4 := Below.on' hB hb
      generalize hX2 : (ordF r nm).length = X2 at hz2 ⊢
      replace hX2 := Lib.hid hX2
      clear hnr
      go_wp2
      go_ret2
      exact RV.mk (by rw [HE.out, hX2.out]; rfl) hB4
end Go.Proofs.YtjmjilkpckbpeaaGreatDoor

/- ReceiveAt, the reference. Conditions: at most 2^20 in each list, texts of at most 2^20; the listed variables as Said has them. -/
import Derived.Test.YtjmjilkpckbpeaaGreatDoorLM
namespace Go.Proofs.YtjmjilkpckbpeaaGreatDoor
open Go.RowKit

set_option maxRecDepth 100000 in
set_option maxHeartbeats 8000000 in
theorem ReceiveAt_spec (Af : Option Addr) (cf : Nat) (f : List App) (An : Option Addr) (cn : Nat) (n : List App) (As : Option Addr) (cs : Nat) (s : List Msg) (Ar : Option Addr) (cr : Nat) (r : List Msg) (Ah : Option Addr) (ch : Nat) (h : List Msg) (i : Int) (w : World) (hE : EA w Af cf f An cn n As cs s Ar cr r Ah ch h) :
    Calls Tryz.prog 51 #[.agg #[.slice Af f.length cf, .slice An n.length cn, .slice As s.length cs, .slice Ar r.length cr, .slice Ah h.length ch], .int .i64 i] w (RENT w (recT f n s r h i)) := by
  generalize hQ : recT f n s r h i = t
  replace hQ := Lib.hid hQ
  have e1 : (w.alloc (.cells #[.slice Af f.length cf, .slice An n.length cn, .slice As s.length cs, .slice Ar r.length cr, .slice Ah h.length ch] 52)).heap.size = w.heap.size + 1 := by simp
  have hB : Below w.heap.size w ((w.alloc (.cells #[.slice Af f.length cf, .slice An n.length cn, .slice As s.length cs, .slice Ar r.length cr, .slice Ah h.length ch] 52)).alloc (.cells #[.slice none 0 0, .slice none 0 0, .slice none 0 0, .slice none 0 0, .slice none 0 0] 52)) := by go_grown
  have hX : BN w.heap.size [.slice Af f.length cf, .slice An n.length cn, .slice As s.length cs, .slice Ar r.length cr, .slice Ah h.length ch] ((w.alloc (.cells #[.slice Af f.length cf, .slice An n.length cn, .slice As s.length cs, .slice Ar r.length cr, .slice Ah h.length ch] 52)).alloc (.cells #[.slice none 0 0, .slice none 0 0, .slice none 0 0, .slice none 0 0, .slice none 0 0] 52)) := (BN.new w #[.slice Af f.length cf, .slice An n.length cn, .slice As s.length cs, .slice Ar r.length cr, .slice Ah h.length ch] 52 _ rfl).alloc (by simp) (.cells #[.slice none 0 0, .slice none 0 0, .slice none 0 0, .slice none 0 0, .slice none 0 0] 52)
  have hR : BN (w.heap.size + 1) [.slice none 0 0, .slice none 0 0, .slice none 0 0, .slice none 0 0, .slice none 0 0] ((w.alloc (.cells #[.slice Af f.length cf, .slice An n.length cn, .slice As s.length cs, .slice Ar r.length cr, .slice Ah h.length ch] 52)).alloc (.cells #[.slice none 0 0, .slice none 0 0, .slice none 0 0, .slice none 0 0, .slice none 0 0] 52)) := BN.new (w.alloc (.cells #[.slice Af f.length cf, .slice An n.length cn, .slice As s.length cs, .slice Ar r.length cr, .slice Ah h.length ch] 52)) #[.slice none 0 0, .slice none 0 0, .slice none 0 0, .slice none 0 0, .slice none 0 0] 52 (w.heap.size + 1) e1.symm
  have hE0 := hE
  replace hE := hE.below hB
  have b0 := (hX 0 _ rfl).1
  have b1 := (hX 1 _ rfl).1
  have b2 := (hX 2 _ rfl).1
  have b3 := (hX 3 _ rfl).1
  have b4 := (hX 4 _ rfl).1
  go_enter Tryz.func51, Tryz.ntmps51
  go_wp2_with fail
  refine (stGood_any Af cf f An cn n As cs s Ar cr r Ah ch h _ hE.lf hE.mf hE.Sf hE.ln hE.mn hE.Sn hE.ls hE.ms hE.Ss hE.ks hE.lr hE.mr hE.Sr hE.kr hE.lh hE.mh hE.Sh hE.kh).mono ?_
  rintro e w1 ⟨rfl, hb⟩
  replace hX := hX.below (by simp) hb
  replace hR := hR.below (by simp) hb
  replace hE := hE.below hb
  replace hB := Below.on' hB hb
  clear b0 b1 b2 b3 b4 hb
  have b0 := (hX 0 _ rfl).1
  have b1 := (hX 1 _ rfl).1
  have b2 := (hX 2 _ rfl).1
  have b3 := (hX 3 _ rfl).1
  have b4 := (hX 4 _ rfl).1
  have hw1 : w.heap.size + 2 ≤ w1.heap.size := hR.lt (by simp)
  by_cases g : endsB f n s r h = true
  rotate_left
  · have g : endsB f n s r h = false := by simpa using g
    obtain rfl : enNo = t := (recT_no1 g).symm.trans hQ.out
    rw [g]
    have hR' := (((((hR.put (i := 0) rfl (.slice none 0 0)).put (i := 1) rfl (.slice none 0 0)).put (i := 2) rfl (.slice none 0 0)).put (i := 3) rfl (.slice none 0 0)).put (i := 4) rfl (.slice none 0 0))
    have hF : Fr ((w.heap.size + 1)) ((w.heap.size + 1) + 1) w1 (((((w1.setCell ⟨(w.heap.size + 1), 0, none⟩ (.slice none 0 0)).setCell ⟨(w.heap.size + 1), 1, none⟩ (.slice none 0 0)).setCell ⟨(w.heap.size + 1), 2, none⟩ (.slice none 0 0)).setCell ⟨(w.heap.size + 1), 3, none⟩ (.slice none 0 0)).setCell ⟨(w.heap.size + 1), 4, none⟩ (.slice none 0 0)) := ((((((Fr.refl _ _ _).setCell ⟨by simp, by simp⟩ _).setCell ⟨by simp, by simp⟩ _).setCell ⟨by simp, by simp⟩ _).setCell ⟨by simp, by simp⟩ _).setCell ⟨by simp, by simp⟩ _)
    have hB' := hB.trans (hF.below (B := w.heap.size) (by omega) (by have := hB.size; omega))
    have k0 := (hR 0 _ rfl).1
    have k1 := (hR 1 _ rfl).1
    have k2 := (hR 2 _ rfl).1
    have k3 := (hR 3 _ rfl).1
    have k4 := (hR 4 _ rfl).1
    have f0 := (hR 0 _ rfl).2
    have f1 := (hR 1 _ rfl).2
    have f2 := (hR 2 _ rfl).2
    have f3 := (hR 3 _ rfl).2
    have f4 := (hR 4 _ rfl).2
    have x0 := (hR' 0 _ rfl).1
    have x1 := (hR' 1 _ rfl).1
    have x2 := (hR' 2 _ rfl).1
    have x3 := (hR' 3 _ rfl).1
    have x4 := (hR' 4 _ rfl).1
    go_wp2
    refine bodyPost_ret (by simp [results, Tryz.results51, go_sem, x0, x1, x2, x3, x4]; try rfl) rfl ?_
    exact ⟨none, 0, none, 0, none, 0, none, 0, none, 0, rfl, IntE.nil_ hB'.size, hB'⟩
  rw [g]
  have hD := Lib.hid (rec_del (i := i) g)
  go_wp2_with fail
  refine (Deliver_spec As cs s Ar cr r Ah ch h i _ hE.ls hE.ms hE.Ss hE.ks hE.lr hE.mr hE.Sr hE.kr hE.lh hE.mh hE.Sh hE.kh).mono ?_
  generalize delT s r h i = D at hD ⊢
  obtain ⟨⟨d1, d2, d3⟩, d⟩ := D
  rintro e w2 ⟨A3, c3, A4, c4, A5, c5, rfl, hI, hb⟩
  have hs12 := hb.size
  replace hX := hX.below (by simp) hb
  replace hR := hR.below (by simp) hb
  replace hE := hE.below hb
  replace hB := Below.on' hB hb
  clear b0 b1 b2 b3 b4 hb
  have b0 := (hX 0 _ rfl).1
  have b1 := (hX 1 _ rfl).1
  have b2 := (hX 2 _ rfl).1
  have b3 := (hX 3 _ rfl).1
  have b4 := (hX 4 _ rfl).1
  have hI' := (hI.lift (b0 := w1.heap.size) (Nat.le_refl _)).below ((Below.refl _ _).alloc (Nat.le_refl _) (.cells #[.slice A3 d1.length c3, .slice A4 d2.length c4, .slice A5 d3.length c5] 26))
  replace hX := hX.alloc (by simp) (.cells #[.slice A3 d1.length c3, .slice A4 d2.length c4, .slice A5 d3.length c5] 26)
  replace hR := hR.alloc (by simp) (.cells #[.slice A3 d1.length c3, .slice A4 d2.length c4, .slice A5 d3.length c5] 26)
  replace hE := hE.below ((Below.refl _ _).alloc (Nat.le_refl _) (.cells #[.slice A3 d1.length c3, .slice A4 d2.length c4, .slice A5 d3.length c5] 26))
  have hY : BN w2.heap.size [.slice A3 d1.length c3, .slice A4 d2.length c4, .slice A5 d3.length c5] (w2.alloc (.cells #[.slice A3 d1.length c3, .slice A4 d2.length c4, .slice A5 d3.length c5] 26)) := BN.new w2 _ 26 _ rfl
  replace hB := hB.alloc hB.size (.cells #[.slice A3 d1.length c3, .slice A4 d2.length c4, .slice A5 d3.length c5] 26)
  have y0 := (hY 0 _ rfl).1
  have y1 := (hY 1 _ rfl).1
  have y2 := (hY 2 _ rfl).1
  clear b0 b1 b2 b3 b4
  have b0 := (hX 0 _ rfl).1
  have b1 := (hX 1 _ rfl).1
  have b2 := (hX 2 _ rfl).1
  have b3 := (hX 3 _ rfl).1
  have b4 := (hX 4 _ rfl).1
  cases d with
  | false =>
    obtain rfl : enNo = t := by rw [← hQ.out, hD.out]; rfl
    dsimp only at hD ⊢
    clear hD
    have hR' := (((((hR.put (i := 0) rfl (.slice none 0 0)).put (i := 1) rfl (.slice none 0 0)).put (i := 2) rfl (.slice none 0 0)).put (i := 3) rfl (.slice none 0 0)).put (i := 4) rfl (.slice none 0 0))
    have hF : Fr ((w.heap.size + 1)) ((w.heap.size + 1) + 1) (w2.alloc (.cells #[.slice A3 d1.length c3, .slice A4 d2.length c4, .slice A5 d3.length c5] 26)) ((((((w2.alloc (.cells #[.slice A3 d1.length c3, .slice A4 d2.length c4, .slice A5 d3.length c5] 26)).setCell ⟨(w.heap.size + 1), 0, none⟩ (.slice none 0 0)).setCell ⟨(w.heap.size + 1), 1, none⟩ (.slice none 0 0)).setCell ⟨(w.heap.size + 1), 2, none⟩ (.slice none 0 0)).setCell ⟨(w.heap.size + 1), 3, none⟩ (.slice none 0 0)).setCell ⟨(w.heap.size + 1), 4, none⟩ (.slice none 0 0)) := ((((((Fr.refl _ _ _).setCell ⟨by simp, by simp⟩ _).setCell ⟨by simp, by simp⟩ _).setCell ⟨by simp, by simp⟩ _).setCell ⟨by simp, by simp⟩ _).setCell ⟨by simp, by simp⟩ _)
    have hB' := hB.trans (hF.below (B := w.heap.size) (by omega) (by have := hB.size; omega))
    have k0 := (hR 0 _ rfl).1
    have k1 := (hR 1 _ rfl).1
    have k2 := (hR 2 _ rfl).1
    have k3 := (hR 3 _ rfl).1
    have k4 := (hR 4 _ rfl).1
    have f0 := (hR 0 _ rfl).2
    have f1 := (hR 1 _ rfl).2
    have f2 := (hR 2 _ rfl).2
    have f3 := (hR 3 _ rfl).2
    have f4 := (hR 4 _ rfl).2
    have x0 := (hR' 0 _ rfl).1
    have x1 := (hR' 1 _ rfl).1
    have x2 := (hR' 2 _ rfl).1
    have x3 := (hR' 3 _ rfl).1
    have x4 := (hR' 4 _ rfl).1
    go_wp2
    refine bodyPost_ret (by simp [results, Tryz.results51, go_sem, x0, x1, x2, x3, x4]; try rfl) rfl ?_
    exact ⟨none, 0, none, 0, none, 0, none, 0, none, 0, rfl, IntE.nil_ hB'.size, hB'⟩
  | true =>
    obtain rfl : ((f, n, d1, d2, d3), true) = t := by rw [← hQ.out, hD.out]; rfl
    clear hD hQ
    dsimp only
    go_wp2_with fail
    refine (stWith_any Af cf f (.slice An n.length cn) (.slice As s.length cs) (.slice Ar r.length cr) (.slice Ah h.length ch) An cn n A3 d1.length c3 A4 d2.length c4 A5 d3.length c5 _ hE.lf hE.Sf hE.ln hE.Sn).mono ?_
    rintro e w3 ⟨A1, c1, A2, c2, rfl, hF, hb⟩
    have hIE := IntE.of_f hF hI' hb (by simp; omega)
    replace hR := hR.below (by simp) hb
    replace hB := Below.on' hB hb
    have hz3 := hB.size
    have hlt := hR.lt (by simp)
    clear b0 b1 b2 b3 b4 y0 y1 y2 hb hF
    have hR' := (((((hR.put (i := 0) rfl (.slice A1 f.length c1)).put (i := 1) rfl (.slice A2 n.length c2)).put (i := 2) rfl (.slice A3 d1.length c3)).put (i := 3) rfl (.slice A4 d2.length c4)).put (i := 4) rfl (.slice A5 d3.length c5))
    have hF : Fr ((w.heap.size + 1)) ((w.heap.size + 1) + 1) w3 (((((w3.setCell ⟨(w.heap.size + 1), 0, none⟩ (.slice A1 f.length c1)).setCell ⟨(w.heap.size + 1), 1, none⟩ (.slice A2 n.length c2)).setCell ⟨(w.heap.size + 1), 2, none⟩ (.slice A3 d1.length c3)).setCell ⟨(w.heap.size + 1), 3, none⟩ (.slice A4 d2.length c4)).setCell ⟨(w.heap.size + 1), 4, none⟩ (.slice A5 d3.length c5)) := ((((((Fr.refl _ _ _).setCell ⟨by simp, by simp⟩ _).setCell ⟨by simp, by simp⟩ _).setCell ⟨by simp, by simp⟩ _).setCell ⟨by simp, by simp⟩ _).setCell ⟨by simp, by simp⟩ _)
    have hB' := hB.trans (hF.below (B := w.heap.size) (by omega) (by have := hB.size; omega))
    have k0 := (hR 0 _ rfl).1
    have k1 := (hR 1 _ rfl).1
    have k2 := (hR 2 _ rfl).1
    have k3 := (hR 3 _ rfl).1
    have k4 := (hR 4 _ rfl).1
    have f0 := (hR 0 _ rfl).2
    have f1 := (hR 1 _ rfl).2
    have f2 := (hR 2 _ rfl).2
    have f3 := (hR 3 _ rfl).2
    have f4 := (hR 4 _ rfl).2
    have x0 := (hR' 0 _ rfl).1
    have x1 := (hR' 1 _ rfl).1
    have x2 := (hR' 2 _ rfl).1
    have x3 := (hR' 3 _ rfl).1
    have x4 := (hR' 4 _ rfl).1
    go_wp2
    refine bodyPost_ret (by simp [results, Tryz.results51, go_sem, x0, x1, x2, x3, x4]; try rfl) rfl ?_
    exact ⟨A1, c1, A2, c2, A3, c3, A4, c4, A5, c5, rfl, (hIE.fr hF (by omega)).lift (by omega), hB'⟩
end Go.Proofs.YtjmjilkpckbpeaaGreatDoor

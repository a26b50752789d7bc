/- ReceiveAll, the reference. Conditions: at most 2^20 in each list, texts of at most 2^20; the listed variables as Said has them. -/
import Derived.Test.YtjmjilkpckbpeaaGreatDoorLM
namespace Go.Proofs.YtjmjilkpckbpeaaGreatDoor
open Go.RowKit

set_option maxRecDepth 100000 in
set_option maxHeartbeats 8000000 in
theorem ReceiveAll_spec (Af : Option Addr) (cf : Nat) (f : List App) (An : Option Addr) (cn : Nat) (n : List App) (As : Option Addr) (cs : Nat) (s : List Msg) (Ar : Option Addr) (cr : Nat) (r : List Msg) (Ah : Option Addr) (ch : Nat) (h : List Msg) (w : World) (hE : EA w Af cf f An cn n As cs s Ar cr r Ah ch h) :
    Calls Tryz.prog 33 #[.agg #[.slice Af f.length cf, .slice An n.length cn, .slice As s.length cs, .slice Ar r.length cr, .slice Ah h.length ch]] w (RENT w (rallT f n s r h)) := by
  generalize hQ : rallT f n s r h = t
  replace hQ := Lib.hid hQ
  have e1 : (w.alloc (.cells #[.slice Af f.length cf, .slice An n.length cn, .slice As s.length cs, .slice Ar r.length cr, .slice Ah h.length ch] 52)).heap.size = w.heap.size + 1 := by simp
  have hB : Below w.heap.size w ((w.alloc (.cells #[.slice Af f.length cf, .slice An n.length cn, .slice As s.length cs, .slice Ar r.length cr, .slice Ah h.length ch] 52)).alloc (.cells #[.slice none 0 0, .slice none 0 0, .slice none 0 0, .slice none 0 0, .slice none 0 0] 52)) := by go_grown
  have hX : BN w.heap.size [.slice Af f.length cf, .slice An n.length cn, .slice As s.length cs, .slice Ar r.length cr, .slice Ah h.length ch] ((w.alloc (.cells #[.slice Af f.length cf, .slice An n.length cn, .slice As s.length cs, .slice Ar r.length cr, .slice Ah h.length ch] 52)).alloc (.cells #[.slice none 0 0, .slice none 0 0, .slice none 0 0, .slice none 0 0, .slice none 0 0] 52)) := (BN.new w #[.slice Af f.length cf, .slice An n.length cn, .slice As s.length cs, .slice Ar r.length cr, .slice Ah h.length ch] 52 _ rfl).alloc (by simp) (.cells #[.slice none 0 0, .slice none 0 0, .slice none 0 0, .slice none 0 0, .slice none 0 0] 52)
  have hR : BN (w.heap.size + 1) [.slice none 0 0, .slice none 0 0, .slice none 0 0, .slice none 0 0, .slice none 0 0] ((w.alloc (.cells #[.slice Af f.length cf, .slice An n.length cn, .slice As s.length cs, .slice Ar r.length cr, .slice Ah h.length ch] 52)).alloc (.cells #[.slice none 0 0, .slice none 0 0, .slice none 0 0, .slice none 0 0, .slice none 0 0] 52)) := BN.new (w.alloc (.cells #[.slice Af f.length cf, .slice An n.length cn, .slice As s.length cs, .slice Ar r.length cr, .slice Ah h.length ch] 52)) #[.slice none 0 0, .slice none 0 0, .slice none 0 0, .slice none 0 0, .slice none 0 0] 52 (w.heap.size + 1) e1.symm
  have hE0 := hE
  replace hE := hE.below hB
  have b0 := (hX 0 _ rfl).1
  have b1 := (hX 1 _ rfl).1
  have b2 := (hX 2 _ rfl).1
  have b3 := (hX 3 _ rfl).1
  have b4 := (hX 4 _ rfl).1
  go_enter Tryz.func33, Tryz.ntmps33
  go_wp2_with fail
  refine (stGood_any Af cf f An cn n As cs s Ar cr r Ah ch h _ hE.lf hE.mf hE.Sf hE.ln hE.mn hE.Sn hE.ls hE.ms hE.Ss hE.ks hE.lr hE.mr hE.Sr hE.kr hE.lh hE.mh hE.Sh hE.kh).mono ?_
  rintro e w1 ⟨rfl, hb⟩
  replace hX := hX.below (by simp) hb
  replace hR := hR.below (by simp) hb
  replace hE := hE.below hb
  replace hB := Below.on' hB hb
  clear b0 b1 b2 b3 b4 hb
  have b0 := (hX 0 _ rfl).1
  have b1 := (hX 1 _ rfl).1
  have b2 := (hX 2 _ rfl).1
  have b3 := (hX 3 _ rfl).1
  have b4 := (hX 4 _ rfl).1
  have hw1 : w.heap.size + 2 ≤ w1.heap.size := hR.lt (by simp)
  by_cases g : endsB f n s r h = true
  rotate_left
  · have g : endsB f n s r h = false := by simpa using g
    obtain rfl : enNo = t := (rallT_no g).symm.trans hQ.out
    rw [g]
    have hR' := (((((hR.put (i := 0) rfl (.slice none 0 0)).put (i := 1) rfl (.slice none 0 0)).put (i := 2) rfl (.slice none 0 0)).put (i := 3) rfl (.slice none 0 0)).put (i := 4) rfl (.slice none 0 0))
    have hF : Fr ((w.heap.size + 1)) ((w.heap.size + 1) + 1) w1 (((((w1.setCell ⟨(w.heap.size + 1), 0, none⟩ (.slice none 0 0)).setCell ⟨(w.heap.size + 1), 1, none⟩ (.slice none 0 0)).setCell ⟨(w.heap.size + 1), 2, none⟩ (.slice none 0 0)).setCell ⟨(w.heap.size + 1), 3, none⟩ (.slice none 0 0)).setCell ⟨(w.heap.size + 1), 4, none⟩ (.slice none 0 0)) := ((((((Fr.refl _ _ _).setCell ⟨by simp, by simp⟩ _).setCell ⟨by simp, by simp⟩ _).setCell ⟨by simp, by simp⟩ _).setCell ⟨by simp, by simp⟩ _).setCell ⟨by simp, by simp⟩ _)
    have hB' := hB.trans (hF.below (B := w.heap.size) (by omega) (by have := hB.size; omega))
    have k0 := (hR 0 _ rfl).1
    have k1 := (hR 1 _ rfl).1
    have k2 := (hR 2 _ rfl).1
    have k3 := (hR 3 _ rfl).1
    have k4 := (hR 4 _ rfl).1
    have f0 := (hR 0 _ rfl).2
    have f1 := (hR 1 _ rfl).2
    have f2 := (hR 2 _ rfl).2
    have f3 := (hR 3 _ rfl).2
    have f4 := (hR 4 _ rfl).2
    have x0 := (hR' 0 _ rfl).1
    have x1 := (hR' 1 _ rfl).1
    have x2 := (hR' 2 _ rfl).1
    have x3 := (hR' 3 _ rfl).1
    have x4 := (hR' 4 _ rfl).1
    go_wp2
    refine bodyPost_ret (by simp [results, Tryz.results33, go_sem, x0, x1, x2, x3, x4]; try rfl) rfl ?_
    exact ⟨none, 0, none, 0, none, 0, none, 0, none, 0, rfl, IntE.nil_ hB'.size, hB'⟩
  rw [g]
  have p3 := (ends_parts g).2.2.1
  have G0 := ChanG.of p3
  obtain ⟨n1, n2, n3⟩ := chan_len p3
  go_wp2_with fail
  refine (raOwn_any As cs s Ar cr r Ah ch h _ hE.ls hE.Ss hE.lr hE.Sr hE.lh hE.Sh).mono ?_
  rintro e w2 ⟨A3, c3, A4, c4, A5, c5, rfl, hO, hb⟩
  have hs2 := hb.size
  have hb' : Below w1.heap.size w1 (w2.alloc (.cells #[.slice A3 s.length c3, .slice A4 r.length c4, .slice A5 h.length c5] 26)) := hb.alloc hb.size _
  have hB2 := Below.on' hB hb'
  have q : RQ w Af cf f An cn n As cs s Ar cr r Ah ch h w1.heap.size w2.heap.size A3 c3 s A4 c4 r A5 c5 h (w2.alloc (.cells #[.slice A3 s.length c3, .slice A4 r.length c4, .slice A5 h.length c5] 26)) := ⟨hX.below (by simp) hb', hR.below (by simp) hb', BN.new w2 _ 26 _ rfl, hO.alloc _, hE0.Sf.upto hB2 (Nat.le_refl _), hE0.Sn.upto hB2 (Nat.le_refl _), hB2, hw1, hs2⟩
  have hlf := hE0.lf
  have hln := hE0.ln
  have hls := hE0.ls
  have b0 := (q.X 0 _ rfl).1
  have b1 := (q.X 1 _ rfl).1
  have b2 := (q.X 2 _ rfl).1
  have b3 := (q.X 3 _ rfl).1
  have b4 := (q.X 4 _ rfl).1
  clear hb hb' hB2 hO hX hR hE hB hE0 p3
  obtain rfl := (rallT_yes g).symm.trans hQ.out
  clear hQ g
  go_wp2_with fail
  go_loopw [17] (fun i wr => ∃ (k : Nat) (r' : List Msg) (A3 : Option Addr) (c3 : Nat) (A4 : Option Addr) (c4 : Nat) (A5 : Option Addr) (c5 : Nat), k ≤ s.length ∧ i = .int .i64 k ∧ Hid (r' = (s.take k).foldl addM r) ∧ ChanG s r' h ∧ r'.length ≤ 30 + k ∧ RQ w Af cf f An cn n As cs s Ar cr r Ah ch h w1.heap.size w2.heap.size A3 c3 s A4 c4 r' A5 c5 h wr) (fun i _ => s.length - (intOf i).toNat)
  case atStart => exact ⟨0, r, A3, c3, A4, c4, A5, c5, Nat.zero_le _, rfl, Lib.hid rfl, G0, by omega, q⟩
  case round =>
    clear q G0 b0 b1 b2 b3 b4
    obtain ⟨k, r', A3, c3, A4, c4, A5, c5, hk, rfl, HX, G, hlr', q⟩ := hrel
    have b0 := (q.X 0 _ rfl).1
    have b1 := (q.X 1 _ rfl).1
    have b2 := (q.X 2 _ rfl).1
    have b3 := (q.X 3 _ rfl).1
    have b4 := (q.X 4 _ rfl).1
    have y0 := (q.Y 0 _ rfl).1
    have u0 := (q.Y 0 _ rfl).2
    have y1 := (q.Y 1 _ rfl).1
    have u1 := (q.Y 1 _ rfl).2
    have y2 := (q.Y 2 _ rfl).1
    have u2 := (q.Y 2 _ rfl).2
    by_cases hlt : k < s.length
    · obtain ⟨m, hm, _⟩ := get_lt hlt
      have HX' : Hid (addM r' m = (s.take (k + 1)).foldl addM r) := Lib.hid (by rw [HX.out, ← rall_snoc hm])
      have G' := G.deliver (List.mem_of_getElem? hm)
      have hal := addM_len r' m
      clear HX
      go_wp2_with fail
      refine (raDeliver_any A3 c3 s A4 c4 r' A5 c5 h _ hls (q.O.o1.sl Msg.len).all (by omega) (q.O.o2.sl Msg.len).all (by omega) (q.O.o3.sl Msg.len).all k m hm).mono ?_
      rw [addW_eq G.key G.rs (List.mem_of_getElem? hm)]
      rintro e V ⟨B3, d3, B4, d4, B5, d5, rfl, hO3, hb⟩
      have q2 := q.next hO3 hb
      have hYV := q.Y.below (by simp) hb
      have hlV := hYV.lt (by simp)
      clear b0 b1 b2 b3 b4 y0 y1 y2 u0 u1 u2 hO3 q
      have y0 := (hYV 0 _ rfl).1
      have u0 := (hYV 0 _ rfl).2
      have y1 := (hYV 1 _ rfl).1
      have u1 := (hYV 1 _ rfl).2
      have y2 := (hYV 2 _ rfl).1
      have u2 := (hYV 2 _ rfl).2
      clear hb hYV
      go_wp2
      go_roundw
      case rel => exact ⟨k + 1, addM r' m, B3, d3, B4, d4, B5, d5, by omega, by go_num, HX', G', by omega, q2⟩
      case measure => simp [intOf]; omega
    · obtain rfl : r' = s.foldl addM r := by rw [HX.out, List.take_of_length_le (by omega)]
      clear HX
      go_wp2_with fail
      refine (stWith_any Af cf f (.slice An n.length cn) (.slice As s.length cs) (.slice Ar r.length cr) (.slice Ah h.length ch) An cn n A3 s.length c3 A4 (s.foldl addM r).length c4 A5 h.length c5 _ hlf q.Sf.all hln q.Sn.all).mono ?_
      rintro e w3 ⟨A1, c1, A2, c2, rfl, hF, hb⟩
      have hlt := q.lt
      have q0 := q.k0
      have q1 := q.k1
      have hIE := IntE.of_f hF (q.O.ints (by omega)) hb (by omega)
      have hR := q.R.below (by simp) hb
      have hB := Below.on' q.B hb
      have hz3 := hb.size
      clear b0 b1 b2 b3 b4 y0 y1 y2 u0 u1 u2 hb hF
      have hR' := (((((hR.put (i := 0) rfl (.slice A1 f.length c1)).put (i := 1) rfl (.slice A2 n.length c2)).put (i := 2) rfl (.slice A3 s.length c3)).put (i := 3) rfl (.slice A4 (s.foldl addM r).length c4)).put (i := 4) rfl (.slice A5 h.length c5))
      have hF : Fr ((w.heap.size + 1)) ((w.heap.size + 1) + 1) w3 (((((w3.setCell ⟨(w.heap.size + 1), 0, none⟩ (.slice A1 f.length c1)).setCell ⟨(w.heap.size + 1), 1, none⟩ (.slice A2 n.length c2)).setCell ⟨(w.heap.size + 1), 2, none⟩ (.slice A3 s.length c3)).setCell ⟨(w.heap.size + 1), 3, none⟩ (.slice A4 (s.foldl addM r).length c4)).setCell ⟨(w.heap.size + 1), 4, none⟩ (.slice A5 h.length c5)) := ((((((Fr.refl _ _ _).setCell ⟨by simp, by simp⟩ _).setCell ⟨by simp, by simp⟩ _).setCell ⟨by simp, by simp⟩ _).setCell ⟨by simp, by simp⟩ _).setCell ⟨by simp, by simp⟩ _)
      have hB' := hB.trans (hF.below (B := w.heap.size) (by omega) (by have := hB.size; omega))
      have k0 := (hR 0 _ rfl).1
      have k1 := (hR 1 _ rfl).1
      have k2 := (hR 2 _ rfl).1
      have k3 := (hR 3 _ rfl).1
      have k4 := (hR 4 _ rfl).1
      have f0 := (hR 0 _ rfl).2
      have f1 := (hR 1 _ rfl).2
      have f2 := (hR 2 _ rfl).2
      have f3 := (hR 3 _ rfl).2
      have f4 := (hR 4 _ rfl).2
      have x0 := (hR' 0 _ rfl).1
      have x1 := (hR' 1 _ rfl).1
      have x2 := (hR' 2 _ rfl).1
      have x3 := (hR' 3 _ rfl).1
      have x4 := (hR' 4 _ rfl).1
      go_wp2
      refine bodyPost_ret (by simp [results, Tryz.results33, go_sem, x0, x1, x2, x3, x4]; try rfl) rfl ?_
      exact ⟨A1, c1, A2, c2, A3, c3, A4, c4, A5, c5, rfl, (hIE.fr hF (by omega)).lift (by omega), hB'⟩
end Go.Proofs.YtjmjilkpckbpeaaGreatDoor

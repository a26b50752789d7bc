/- RunStates, the program. Conditions: at most 2^20 in each list, texts of at most 2^20; the listed variables as Said has them. -/
import Derived.Test.YtianabfehonliaaGreatDoorLM
namespace Go.Proofs.YtianabfehonliaaGreatDoor
open Go.RowKit

set_option maxRecDepth 100000 in
set_option maxHeartbeats 8000000 in
theorem RunStates_impl (Af : Option Addr) (cf : Nat) (f : List App) (An : Option Addr) (cn : Nat) (n : List App) (As : Option Addr) (cs : Nat) (s : List Msg) (Ar : Option Addr) (cr : Nat) (r : List Msg) (Ah : Option Addr) (ch : Nat) (h : List Msg) (p : ByteArray) (w : World) (hE : EA w Af cf f An cn n As cs s Ar cr r Ah ch h) (hsp : p.size ≤ 1048576) (hT : Said w) :
    Calls Tryz.prog 35 #[.agg #[.slice Af f.length cf, .slice An n.length cn, .slice As s.length cs, .slice Ar r.length cr, .slice Ah h.length ch], .string p] w (RENT w (rstT f n s r h p)) := by
  generalize hQ : rstT f n s r h p = t
  replace hQ := Lib.hid hQ
  have e1 : (w.alloc (.cells #[.slice Af f.length cf, .slice An n.length cn, .slice As s.length cs, .slice Ar r.length cr, .slice Ah h.length ch] 36)).heap.size = w.heap.size + 1 := by simp
  have hB : Below w.heap.size w ((w.alloc (.cells #[.slice Af f.length cf, .slice An n.length cn, .slice As s.length cs, .slice Ar r.length cr, .slice Ah h.length ch] 36)).alloc (.cells #[.slice none 0 0, .slice none 0 0, .slice none 0 0, .slice none 0 0, .slice none 0 0] 36)) := by go_grown
  have hX : BN w.heap.size [.slice Af f.length cf, .slice An n.length cn, .slice As s.length cs, .slice Ar r.length cr, .slice Ah h.length ch] ((w.alloc (.cells #[.slice Af f.length cf, .slice An n.length cn, .slice As s.length cs, .slice Ar r.length cr, .slice Ah h.length ch] 36)).alloc (.cells #[.slice none 0 0, .slice none 0 0, .slice none 0 0, .slice none 0 0, .slice none 0 0] 36)) := (BN.new w #[.slice Af f.length cf, .slice An n.length cn, .slice As s.length cs, .slice Ar r.length cr, .slice Ah h.length ch] 36 _ rfl).alloc (by simp) (.cells #[.slice none 0 0, .slice none 0 0, .slice none 0 0, .slice none 0 0, .slice none 0 0] 36)
  have hR : BN (w.heap.size + 1) [.slice none 0 0, .slice none 0 0, .slice none 0 0, .slice none 0 0, .slice none 0 0] ((w.alloc (.cells #[.slice Af f.length cf, .slice An n.length cn, .slice As s.length cs, .slice Ar r.length cr, .slice Ah h.length ch] 36)).alloc (.cells #[.slice none 0 0, .slice none 0 0, .slice none 0 0, .slice none 0 0, .slice none 0 0] 36)) := BN.new (w.alloc (.cells #[.slice Af f.length cf, .slice An n.length cn, .slice As s.length cs, .slice Ar r.length cr, .slice Ah h.length ch] 36)) #[.slice none 0 0, .slice none 0 0, .slice none 0 0, .slice none 0 0, .slice none 0 0] 36 (w.heap.size + 1) e1.symm
  have hE0 := hE
  replace hE := hE.below hB
  replace hT := hT.below hB
  have b0 := (hX 0 _ rfl).1
  have b1 := (hX 1 _ rfl).1
  have b2 := (hX 2 _ rfl).1
  have b3 := (hX 3 _ rfl).1
  have b4 := (hX 4 _ rfl).1
  go_enter Tryz.func35, Tryz.ntmps35
  go_wp2_with fail
  refine (areEnds_any Af cf f An cn n As cs s Ar cr r Ah ch h _ w.heap.size hX hE.lf hE.mf hE.Sf hE.ln hE.mn hE.Sn hE.ls hE.ms hE.Ss hE.ks hE.lr hE.mr hE.Sr hE.kr hE.lh hE.mh hE.Sh hE.kh hT).mono ?_
  rintro e w1 ⟨rfl, hb⟩
  replace hX := hX.below (by simp) hb
  replace hR := hR.below (by simp) hb
  replace hE := hE.below hb
  replace hT := hT.below hb
  replace hB := Below.on' hB hb
  clear b0 b1 b2 b3 b4 hb
  have b0 := (hX 0 _ rfl).1
  have b1 := (hX 1 _ rfl).1
  have b2 := (hX 2 _ rfl).1
  have b3 := (hX 3 _ rfl).1
  have b4 := (hX 4 _ rfl).1
  have hw1 : w.heap.size + 2 ≤ w1.heap.size := hR.lt (by simp)
  by_cases g : endsB f n s r h = true
  rotate_left
  · have g : endsB f n s r h = false := by simpa using g
    obtain rfl : enNo = t := (rstT_no1 g).symm.trans hQ.out
    rw [g]
    have hR' := (((((hR.put (i := 0) rfl (.slice none 0 0)).put (i := 1) rfl (.slice none 0 0)).put (i := 2) rfl (.slice none 0 0)).put (i := 3) rfl (.slice none 0 0)).put (i := 4) rfl (.slice none 0 0))
    have hF : Fr ((w.heap.size + 1)) ((w.heap.size + 1) + 1) w1 (((((w1.setCell ⟨(w.heap.size + 1), 0, none⟩ (.slice none 0 0)).setCell ⟨(w.heap.size + 1), 1, none⟩ (.slice none 0 0)).setCell ⟨(w.heap.size + 1), 2, none⟩ (.slice none 0 0)).setCell ⟨(w.heap.size + 1), 3, none⟩ (.slice none 0 0)).setCell ⟨(w.heap.size + 1), 4, none⟩ (.slice none 0 0)) := ((((((Fr.refl _ _ _).setCell ⟨by simp, by simp⟩ _).setCell ⟨by simp, by simp⟩ _).setCell ⟨by simp, by simp⟩ _).setCell ⟨by simp, by simp⟩ _).setCell ⟨by simp, by simp⟩ _)
    have hB' := hB.trans (hF.below (B := w.heap.size) (by omega) (by have := hB.size; omega))
    have k0 := (hR 0 _ rfl).1
    have k1 := (hR 1 _ rfl).1
    have k2 := (hR 2 _ rfl).1
    have k3 := (hR 3 _ rfl).1
    have k4 := (hR 4 _ rfl).1
    have f0 := (hR 0 _ rfl).2
    have f1 := (hR 1 _ rfl).2
    have f2 := (hR 2 _ rfl).2
    have f3 := (hR 3 _ rfl).2
    have f4 := (hR 4 _ rfl).2
    have x0 := (hR' 0 _ rfl).1
    have x1 := (hR' 1 _ rfl).1
    have x2 := (hR' 2 _ rfl).1
    have x3 := (hR' 3 _ rfl).1
    have x4 := (hR' 4 _ rfl).1
    go_wp2
    refine bodyPost_ret (by simp [results, Tryz.results35, go_sem, x0, x1, x2, x3, x4]; try rfl) rfl ?_
    exact ⟨none, 0, none, 0, none, 0, none, 0, none, 0, rfl, IntE.nil_ hB'.size, hB'⟩
  rw [g]
  by_cases g2 : p.size ≤ 40
  rotate_left
  · have g2' : (40 : Int) < p.size := by omega
    obtain rfl : enNo = t := (rstT_no2 g2).symm.trans hQ.out
    have hR' := (((((hR.put (i := 0) rfl (.slice none 0 0)).put (i := 1) rfl (.slice none 0 0)).put (i := 2) rfl (.slice none 0 0)).put (i := 3) rfl (.slice none 0 0)).put (i := 4) rfl (.slice none 0 0))
    have hF : Fr ((w.heap.size + 1)) ((w.heap.size + 1) + 1) w1 (((((w1.setCell ⟨(w.heap.size + 1), 0, none⟩ (.slice none 0 0)).setCell ⟨(w.heap.size + 1), 1, none⟩ (.slice none 0 0)).setCell ⟨(w.heap.size + 1), 2, none⟩ (.slice none 0 0)).setCell ⟨(w.heap.size + 1), 3, none⟩ (.slice none 0 0)).setCell ⟨(w.heap.size + 1), 4, none⟩ (.slice none 0 0)) := ((((((Fr.refl _ _ _).setCell ⟨by simp, by simp⟩ _).setCell ⟨by simp, by simp⟩ _).setCell ⟨by simp, by simp⟩ _).setCell ⟨by simp, by simp⟩ _).setCell ⟨by simp, by simp⟩ _)
    have hB' := hB.trans (hF.below (B := w.heap.size) (by omega) (by have := hB.size; omega))
    have k0 := (hR 0 _ rfl).1
    have k1 := (hR 1 _ rfl).1
    have k2 := (hR 2 _ rfl).1
    have k3 := (hR 3 _ rfl).1
    have k4 := (hR 4 _ rfl).1
    have f0 := (hR 0 _ rfl).2
    have f1 := (hR 1 _ rfl).2
    have f2 := (hR 2 _ rfl).2
    have f3 := (hR 3 _ rfl).2
    have f4 := (hR 4 _ rfl).2
    have x0 := (hR' 0 _ rfl).1
    have x1 := (hR' 1 _ rfl).1
    have x2 := (hR' 2 _ rfl).1
    have x3 := (hR' 3 _ rfl).1
    have x4 := (hR' 4 _ rfl).1
    go_wp2
    refine bodyPost_ret (by simp [results, Tryz.results35, go_sem, x0, x1, x2, x3, x4]; try rfl) rfl ?_
    exact ⟨none, 0, none, 0, none, 0, none, 0, none, 0, rfl, IntE.nil_ hB'.size, hB'⟩
  have g2' : ¬ (40 : Int) < p.size := by omega
  have p3 := (ends_parts g).2.2.1
  have G0 := ChanG.of p3
  obtain ⟨n1, n2, n3⟩ := chan_len p3
  go_wp2_with fail
  refine (copyEnds_any w.heap.size Af cf f An cn n As cs s Ar cr r Ah ch h _ hX hE.lf hE.Sf hE.ln hE.Sn hE.ls hE.Ss hE.lr hE.Sr hE.lh hE.Sh).mono ?_
  rintro e w3 ⟨A1, c1, A2, c2, A3, c3, A4, c4, A5, c5, rfl, hC, hb⟩
  have hls := hE.ls
  replace hR := hR.below (by simp) hb
  replace hB := Below.on' hB hb
  obtain ⟨m1, m2, q⟩ := RI.start (c1 := c1) (c2 := c2) hC hR hB (show w.heap.size + 2 ≤ w1.heap.size from hw1)
  clear b0 b1 b2 b3 b4 hb hC hR hX hE hT hB hE0
  obtain ⟨cap, V, hconv, hP, hbV, hPlt⟩ := conv_bytes (w3.alloc (.cells #[.slice A1 f.length c1, .slice A2 n.length c2, .slice A3 s.length c3, .slice A4 r.length c4, .slice A5 h.length c5] 36)) p
  have e2 : (w3.alloc (.cells #[.slice A1 f.length c1, .slice A2 n.length c2, .slice A3 s.length c3, .slice A4 r.length c4, .slice A5 h.length c5] 36)).heap.size = w3.heap.size + 1 := by simp
  rw [e2] at hconv hP hPlt
  have hP4 : Dis A4 (some ⟨w3.heap.size + 1, 0, none⟩) := fun a a2 e1 e2' q' => by injection e2' with e2'; subst e2'; have := q.O.o2.lt a e1; rw [e2] at this; simp only at q'; omega
  replace q := q.below hbV
  go_wp2_with fail
  go_loopw [22] (fun i wr => ∃ (k : Nat) (r' : List Msg) (A4 : Option Addr) (c4 : Nat), k ≤ p.size ∧ i = .int .i64 k ∧ Hid (rsN s p (p.size - k) k r' = rsN s p p.size 0 r) ∧ r'.length ≤ 30 + k ∧ RI w w1.heap.size m1 m2 w3.heap.size f n A1 c1 A2 c2 A3 c3 s A4 c4 r' A5 c5 h wr ∧ Dis A4 (some ⟨w3.heap.size + 1, 0, none⟩) ∧ w3.heap.size + 1 < wr.heap.size ∧ (∀ q (h : q < p.size), wr.cell? ⟨w3.heap.size + 1, q, none⟩ = some (.int .u8 (p[q].toNat : Int)))) (fun i _ => p.size - (intOf i).toNat)
  case atStart => exact ⟨0, r, A4, c4, Nat.zero_le _, rfl, Lib.hid rfl, by omega, q, hP4, hPlt, hP⟩
  case round =>
    clear q G0 hP hconv hbV e2 hP4 hPlt
    obtain ⟨k, r', A4, c4, hk, rfl, HX, hlr', q, hP4, hPlt, hP⟩ := hrel
    have y0 := (q.Y 0 _ rfl).1
    have y1 := (q.Y 1 _ rfl).1
    have y2 := (q.Y 2 _ rfl).1
    have y3 := (q.Y 3 _ rfl).1
    have y4 := (q.Y 4 _ rfl).1
    by_cases hlt : k < p.size
    · have c0 := hP k hlt
      rcases (by omega : (97 ≤ p[k].toNat ∧ p[k].toNat ≤ 122) ∨ p[k].toNat < 97 ∨ 122 < p[k].toNat) with hc | hc | hc
      · have l0 : 97 ≤ (p[k].toNat : Int) := by omega
        have l1 : (p[k].toNat : Int) ≤ 122 := by omega
        obtain ⟨j, ej⟩ : ∃ j : Nat, p[k].toNat = 97 + j := ⟨p[k].toNat - 97, by omega⟩
        have ej' : (p[k].toNat : Int) - 97 = (j : Nat) := by omega
        have hw8 : IntKind.u8.wrap (j : Int) = j := IntWalk.u8_in _ (by omega)
        have hw6 : IntKind.i64.wrap (j : Int) = j := IntWalk.i64_in _ (by omega)
        by_cases hj : j < s.length
        · have hj' : (j : Int) < s.length := by omega
          obtain ⟨m, hm, _⟩ := get_lt hj
          have hq := rs_a (s := s) (r := r') (c := p[k].toNat) (by omega) ej hm
          have HX' : Hid (rsN s p (p.size - (k + 1)) (k + 1) (addM r' m) = rsN s p p.size 0 r) := Lib.hid (by rw [← HX.out, rsN_step hlt, hq])
          have hal := addM_len r' m
          clear hq HX hQ ej hc g
          go_wp2_with fail
          refine (q.deliver hls (by omega) j m hm).mono ?_
          rintro e V ⟨A', c', rfl, q', hbp, hdd, hsz⟩
          have hPl : w3.heap.size + 1 < wr.heap.size := hPlt
          have hPN := hdd _ hP4 (fun a ha => by injection ha with ha; subst ha; exact hPl)
          have hP5 := fun (q0 : Nat) (hq : q0 < p.size) => (World.cell?_of_block (a := ⟨w3.heap.size + 1, q0, none⟩) (hbp (w3.heap.size + 1) hPl (by omega) (fun a ha => hP4 a _ ha rfl))).trans (hP q0 hq)
          clear q y0 y1 y2 y3 y4 hbp hP c0
          go_wp2
          go_roundw
          case rel => exact ⟨k + 1, addM r' m, A', c', by omega, by go_num, HX', by omega, q', hPN, Nat.lt_of_lt_of_le hPl hsz, hP5⟩
          case measure => simp [intOf]; omega
        · have hj' : ¬ (j : Int) < s.length := by omega
          have hq := rs_a0 (s := s) (r := r') (c := p[k].toNat) (by omega) ej (by omega)
          have HX' : Hid (rsN s p (p.size - (k + 1)) (k + 1) r' = rsN s p p.size 0 r) := Lib.hid (by rw [← HX.out, rsN_step hlt, hq])
          clear hq HX hQ ej hc g
          go_wp2
          go_roundw
          case rel => exact ⟨k + 1, r', A4, c4, by omega, by go_num, HX', by omega, q, hP4, hPlt, hP⟩
          case measure => simp [intOf]; omega
      · have hq := rs_no (s := s) (r := r') (c := p[k].toNat) (by omega)
        obtain rfl : enNo = t := by rw [← hQ.out, rstT_yes g g2, ← HX.out, rsN_step hlt, hq]
        have l0 : ¬ 97 ≤ (p[k].toNat : Int) := by omega
        clear hQ HX hq g
        have hR := q.R
        have hB := q.B
        have hlR := hR.lt (by simp)
        have hR' := (((((hR.put (i := 0) rfl (.slice none 0 0)).put (i := 1) rfl (.slice none 0 0)).put (i := 2) rfl (.slice none 0 0)).put (i := 3) rfl (.slice none 0 0)).put (i := 4) rfl (.slice none 0 0))
        have hF : Fr ((w.heap.size + 1)) ((w.heap.size + 1) + 1) wr (((((wr.setCell ⟨(w.heap.size + 1), 0, none⟩ (.slice none 0 0)).setCell ⟨(w.heap.size + 1), 1, none⟩ (.slice none 0 0)).setCell ⟨(w.heap.size + 1), 2, none⟩ (.slice none 0 0)).setCell ⟨(w.heap.size + 1), 3, none⟩ (.slice none 0 0)).setCell ⟨(w.heap.size + 1), 4, none⟩ (.slice none 0 0)) := ((((((Fr.refl _ _ _).setCell ⟨by simp, by simp⟩ _).setCell ⟨by simp, by simp⟩ _).setCell ⟨by simp, by simp⟩ _).setCell ⟨by simp, by simp⟩ _).setCell ⟨by simp, by simp⟩ _)
        have hB' := hB.trans (hF.below (B := w.heap.size) (by omega) (by have := hB.size; omega))
        have k0 := (hR 0 _ rfl).1
        have k1 := (hR 1 _ rfl).1
        have k2 := (hR 2 _ rfl).1
        have k3 := (hR 3 _ rfl).1
        have k4 := (hR 4 _ rfl).1
        have f0 := (hR 0 _ rfl).2
        have f1 := (hR 1 _ rfl).2
        have f2 := (hR 2 _ rfl).2
        have f3 := (hR 3 _ rfl).2
        have f4 := (hR 4 _ rfl).2
        have x0 := (hR' 0 _ rfl).1
        have x1 := (hR' 1 _ rfl).1
        have x2 := (hR' 2 _ rfl).1
        have x3 := (hR' 3 _ rfl).1
        have x4 := (hR' 4 _ rfl).1
        go_wp2
        refine bodyPost_ret (by simp [results, Tryz.results35, go_sem, x0, x1, x2, x3, x4]; try rfl) rfl ?_
        exact ⟨none, 0, none, 0, none, 0, none, 0, none, 0, rfl, IntE.nil_ hB'.size, hB'⟩
      · have hq := rs_no (s := s) (r := r') (c := p[k].toNat) (by omega)
        obtain rfl : enNo = t := by rw [← hQ.out, rstT_yes g g2, ← HX.out, rsN_step hlt, hq]
        have l0 : 97 ≤ (p[k].toNat : Int) := by omega
        have l1 : ¬ (p[k].toNat : Int) ≤ 122 := by omega
        clear hQ HX hq g
        have hR := q.R
        have hB := q.B
        have hlR := hR.lt (by simp)
        have hR' := (((((hR.put (i := 0) rfl (.slice none 0 0)).put (i := 1) rfl (.slice none 0 0)).put (i := 2) rfl (.slice none 0 0)).put (i := 3) rfl (.slice none 0 0)).put (i := 4) rfl (.slice none 0 0))
        have hF : Fr ((w.heap.size + 1)) ((w.heap.size + 1) + 1) wr (((((wr.setCell ⟨(w.heap.size + 1), 0, none⟩ (.slice none 0 0)).setCell ⟨(w.heap.size + 1), 1, none⟩ (.slice none 0 0)).setCell ⟨(w.heap.size + 1), 2, none⟩ (.slice none 0 0)).setCell ⟨(w.heap.size + 1), 3, none⟩ (.slice none 0 0)).setCell ⟨(w.heap.size + 1), 4, none⟩ (.slice none 0 0)) := ((((((Fr.refl _ _ _).setCell ⟨by simp, by simp⟩ _).setCell ⟨by simp, by simp⟩ _).setCell ⟨by simp, by simp⟩ _).setCell ⟨by simp, by simp⟩ _).setCell ⟨by simp, by simp⟩ _)
        have hB' := hB.trans (hF.below (B := w.heap.size) (by omega) (by have := hB.size; omega))
        have k0 := (hR 0 _ rfl).1
        have k1 := (hR 1 _ rfl).1
        have k2 := (hR 2 _ rfl).1
        have k3 := (hR 3 _ rfl).1
        have k4 := (hR 4 _ rfl).1
        have f0 := (hR 0 _ rfl).2
        have f1 := (hR 1 _ rfl).2
        have f2 := (hR 2 _ rfl).2
        have f3 := (hR 3 _ rfl).2
        have f4 := (hR 4 _ rfl).2
        have x0 := (hR' 0 _ rfl).1
        have x1 := (hR' 1 _ rfl).1
        have x2 := (hR' 2 _ rfl).1
        have x3 := (hR' 3 _ rfl).1
        have x4 := (hR' 4 _ rfl).1
        go_wp2
        refine bodyPost_ret (by simp [results, Tryz.results35, go_sem, x0, x1, x2, x3, x4]; try rfl) rfl ?_
        exact ⟨none, 0, none, 0, none, 0, none, 0, none, 0, rfl, IntE.nil_ hB'.size, hB'⟩
    · obtain rfl : k = p.size := by omega
      obtain rfl : ((f, n, s, r', h), true) = t := by rw [← hQ.out, rstT_yes g g2, ← HX.out, Nat.sub_self]; rfl
      clear hQ HX g y0 y1 y2 y3 y4
      have hR := q.R
      have hB := q.B
      have hlt := hR.lt (by simp)
      have q0 := q.k0
      have y0 := (q.Y 0 _ rfl).1
      have y1 := (q.Y 1 _ rfl).1
      have y2 := (q.Y 2 _ rfl).1
      have y3 := (q.Y 3 _ rfl).1
      have y4 := (q.Y 4 _ rfl).1
      have hR' := (((((hR.put (i := 0) rfl (.slice A1 f.length c1)).put (i := 1) rfl (.slice A2 n.length c2)).put (i := 2) rfl (.slice A3 s.length c3)).put (i := 3) rfl (.slice A4 r'.length c4)).put (i := 4) rfl (.slice A5 h.length c5))
      have hF : Fr ((w.heap.size + 1)) ((w.heap.size + 1) + 1) wr (((((wr.setCell ⟨(w.heap.size + 1), 0, none⟩ (.slice A1 f.length c1)).setCell ⟨(w.heap.size + 1), 1, none⟩ (.slice A2 n.length c2)).setCell ⟨(w.heap.size + 1), 2, none⟩ (.slice A3 s.length c3)).setCell ⟨(w.heap.size + 1), 3, none⟩ (.slice A4 r'.length c4)).setCell ⟨(w.heap.size + 1), 4, none⟩ (.slice A5 h.length c5)) := ((((((Fr.refl _ _ _).setCell ⟨by simp, by simp⟩ _).setCell ⟨by simp, by simp⟩ _).setCell ⟨by simp, by simp⟩ _).setCell ⟨by simp, by simp⟩ _).setCell ⟨by simp, by simp⟩ _)
      have hB' := hB.trans (hF.below (B := w.heap.size) (by omega) (by have := hB.size; omega))
      have k0 := (hR 0 _ rfl).1
      have k1 := (hR 1 _ rfl).1
      have k2 := (hR 2 _ rfl).1
      have k3 := (hR 3 _ rfl).1
      have k4 := (hR 4 _ rfl).1
      have f0 := (hR 0 _ rfl).2
      have f1 := (hR 1 _ rfl).2
      have f2 := (hR 2 _ rfl).2
      have f3 := (hR 3 _ rfl).2
      have f4 := (hR 4 _ rfl).2
      have x0 := (hR' 0 _ rfl).1
      have x1 := (hR' 1 _ rfl).1
      have x2 := (hR' 2 _ rfl).1
      have x3 := (hR' 3 _ rfl).1
      have x4 := (hR' 4 _ rfl).1
      go_wp2
      refine bodyPost_ret (by simp [results, Tryz.results35, go_sem, x0, x1, x2, x3, x4]; try rfl) rfl ?_
      exact ⟨A1, c1, A2, c2, A3, c3, A4, c4, A5, c5, rfl, q.done hF, hB'⟩
end Go.Proofs.YtianabfehonliaaGreatDoor

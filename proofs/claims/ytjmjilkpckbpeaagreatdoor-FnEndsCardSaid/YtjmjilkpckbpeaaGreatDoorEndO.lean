/- TellState, ReceiveAt, ReceiveAll, RunStates of the program, the capacities of what they return told. Conditions: at most 2^20 in each list, texts of at most 2^20; the listed variables as Said has them. -/
import Derived.Test.YtjmjilkpckbpeaaGreatDoorLM
import Derived.Test.YtjmjilkpckbpeaaGreatDoorEndT1
import Derived.Test.YtjmjilkpckbpeaaGreatDoorSndI
namespace Go.Proofs.YtjmjilkpckbpeaaGreatDoor
open Go.RowKit

/-- The call returned ends in new memory, and a bool; no list of messages is longer than its capacity. -/
def RENC (w : World) (t : EnT) (e : Ending) (w' : World) : Prop :=
  ∃ A1 c1 A2 c2 A3 c3 A4 c4 A5 c5, e = .returned (.tuple #[.agg #[.slice A1 t.1.1.length c1, .slice A2 t.1.2.1.length c2, .slice A3 t.1.2.2.1.length c3, .slice A4 t.1.2.2.2.1.length c4, .slice A5 t.1.2.2.2.2.length c5], .bool t.2]) ∧ IntE w' w.heap.size A1 t.1.1 A2 t.1.2.1 A3 t.1.2.2.1 A4 t.1.2.2.2.1 A5 t.1.2.2.2.2 ∧ (t.1.2.2.1.length ≤ c3 ∧ t.1.2.2.2.1.length ≤ c4 ∧ t.1.2.2.2.2.length ≤ c5) ∧ Below w.heap.size w w'
theorem cap0 : ([] : List Msg).length ≤ 0 ∧ ([] : List Msg).length ≤ 0 ∧ ([] : List Msg).length ≤ 0 := ⟨Nat.le_refl _, Nat.le_refl _, Nat.le_refl _⟩
set_option maxRecDepth 100000 in
set_option maxHeartbeats 8000000 in
theorem TellState_implC (Af : Option Addr) (cf : Nat) (f : List App) (An : Option Addr) (cn : Nat) (n : List App) (As : Option Addr) (cs : Nat) (s : List Msg) (Ar : Option Addr) (cr : Nat) (r : List Msg) (Ah : Option Addr) (ch : Nat) (h : List Msg) (nm : ByteArray) (st : Int) (w : World) (hE : EA w Af cf f An cn n As cs s Ar cr r Ah ch h) (_hsn : nm.size ≤ 1048576) (hT : Said w) :
    Calls Tryz.prog 30 #[.agg #[.slice Af f.length cf, .slice An n.length cn, .slice As s.length cs, .slice Ar r.length cr, .slice Ah h.length ch], .string nm, .int .i64 st] w (RENC w (telT f n s r h nm st)) := by
  generalize hQ : telT f n s r h nm st = t
  replace hQ := Lib.hid hQ
  have e1 : (w.alloc (.cells #[.slice Af f.length cf, .slice An n.length cn, .slice As s.length cs, .slice Ar r.length cr, .slice Ah h.length ch] 52)).heap.size = w.heap.size + 1 := by simp
  have hB : Below w.heap.size w ((w.alloc (.cells #[.slice Af f.length cf, .slice An n.length cn, .slice As s.length cs, .slice Ar r.length cr, .slice Ah h.length ch] 52)).alloc (.cells #[.slice none 0 0, .slice none 0 0, .slice none 0 0, .slice none 0 0, .slice none 0 0] 52)) := by go_grown
  have hX : BN w.heap.size [.slice Af f.length cf, .slice An n.length cn, .slice As s.length cs, .slice Ar r.length cr, .slice Ah h.length ch] ((w.alloc (.cells #[.slice Af f.length cf, .slice An n.length cn, .slice As s.length cs, .slice Ar r.length cr, .slice Ah h.length ch] 52)).alloc (.cells #[.slice none 0 0, .slice none 0 0, .slice none 0 0, .slice none 0 0, .slice none 0 0] 52)) := (BN.new w #[.slice Af f.length cf, .slice An n.length cn, .slice As s.length cs, .slice Ar r.length cr, .slice Ah h.length ch] 52 _ rfl).alloc (by simp) (.cells #[.slice none 0 0, .slice none 0 0, .slice none 0 0, .slice none 0 0, .slice none 0 0] 52)
  have hR : BN (w.heap.size + 1) [.slice none 0 0, .slice none 0 0, .slice none 0 0, .slice none 0 0, .slice none 0 0] ((w.alloc (.cells #[.slice Af f.length cf, .slice An n.length cn, .slice As s.length cs, .slice Ar r.length cr, .slice Ah h.length ch] 52)).alloc (.cells #[.slice none 0 0, .slice none 0 0, .slice none 0 0, .slice none 0 0, .slice none 0 0] 52)) := BN.new (w.alloc (.cells #[.slice Af f.length cf, .slice An n.length cn, .slice As s.length cs, .slice Ar r.length cr, .slice Ah h.length ch] 52)) #[.slice none 0 0, .slice none 0 0, .slice none 0 0, .slice none 0 0, .slice none 0 0] 52 (w.heap.size + 1) e1.symm
  have hE0 := hE
  replace hE := hE.below hB
  replace hT := hT.below hB
  have b0 := (hX 0 _ rfl).1
  have b1 := (hX 1 _ rfl).1
  have b2 := (hX 2 _ rfl).1
  have b3 := (hX 3 _ rfl).1
  have b4 := (hX 4 _ rfl).1
  go_enter Tryz.func30, Tryz.ntmps30
  go_wp2_with fail
  refine (areEnds_any Af cf f An cn n As cs s Ar cr r Ah ch h _ w.heap.size hX hE.lf hE.mf hE.Sf hE.ln hE.mn hE.Sn hE.ls hE.ms hE.Ss hE.ks hE.lr hE.mr hE.Sr hE.kr hE.lh hE.mh hE.Sh hE.kh hT).mono ?_
  rintro e w1 ⟨rfl, hb⟩
  replace hX := hX.below (by simp) hb
  replace hR := hR.below (by simp) hb
  replace hE := hE.below hb
  replace hT := hT.below hb
  replace hB := Below.on' hB hb
  clear b0 b1 b2 b3 b4 hb
  have b0 := (hX 0 _ rfl).1
  have b1 := (hX 1 _ rfl).1
  have b2 := (hX 2 _ rfl).1
  have b3 := (hX 3 _ rfl).1
  have b4 := (hX 4 _ rfl).1
  have hw1 : w.heap.size + 2 ≤ w1.heap.size := hR.lt (by simp)
  by_cases g : endsB f n s r h = true
  rotate_left
  · have g : endsB f n s r h = false := by simpa using g
    obtain rfl : enNo = t := (telT_no1 g).symm.trans hQ.out
    rw [g]
    have hR' := (((((hR.put (i := 0) rfl (.slice none 0 0)).put (i := 1) rfl (.slice none 0 0)).put (i := 2) rfl (.slice none 0 0)).put (i := 3) rfl (.slice none 0 0)).put (i := 4) rfl (.slice none 0 0))
    have hF : Fr ((w.heap.size + 1)) ((w.heap.size + 1) + 1) w1 (((((w1.setCell ⟨(w.heap.size + 1), 0, none⟩ (.slice none 0 0)).setCell ⟨(w.heap.size + 1), 1, none⟩ (.slice none 0 0)).setCell ⟨(w.heap.size + 1), 2, none⟩ (.slice none 0 0)).setCell ⟨(w.heap.size + 1), 3, none⟩ (.slice none 0 0)).setCell ⟨(w.heap.size + 1), 4, none⟩ (.slice none 0 0)) := ((((((Fr.refl _ _ _).setCell ⟨by simp, by simp⟩ _).setCell ⟨by simp, by simp⟩ _).setCell ⟨by simp, by simp⟩ _).setCell ⟨by simp, by simp⟩ _).setCell ⟨by simp, by simp⟩ _)
    have hB' := hB.trans (hF.below (B := w.heap.size) (by omega) (by have := hB.size; omega))
    have k0 := (hR 0 _ rfl).1
    have k1 := (hR 1 _ rfl).1
    have k2 := (hR 2 _ rfl).1
    have k3 := (hR 3 _ rfl).1
    have k4 := (hR 4 _ rfl).1
    have f0 := (hR 0 _ rfl).2
    have f1 := (hR 1 _ rfl).2
    have f2 := (hR 2 _ rfl).2
    have f3 := (hR 3 _ rfl).2
    have f4 := (hR 4 _ rfl).2
    have x0 := (hR' 0 _ rfl).1
    have x1 := (hR' 1 _ rfl).1
    have x2 := (hR' 2 _ rfl).1
    have x3 := (hR' 3 _ rfl).1
    have x4 := (hR' 4 _ rfl).1
    go_wp2
    refine bodyPost_ret (by simp [results, Tryz.results30, go_sem, x0, x1, x2, x3, x4]; try rfl) rfl ?_
    exact ⟨none, 0, none, 0, none, 0, none, 0, none, 0, rfl, IntE.nil_ hB'.size, cap0, hB'⟩
  rw [g]
  go_wp2_with fail
  refine (isState_a st _).mono ?_
  rintro e w2 ⟨rfl, hb⟩
  replace hX := hX.below (by simp) hb
  replace hR := hR.below (by simp) hb
  replace hE := hE.below hb
  replace hT := hT.below hb
  replace hB := Below.on' hB hb
  clear b0 b1 b2 b3 b4 hb
  have b0 := (hX 0 _ rfl).1
  have b1 := (hX 1 _ rfl).1
  have b2 := (hX 2 _ rfl).1
  have b3 := (hX 3 _ rfl).1
  have b4 := (hX 4 _ rfl).1
  by_cases hs0 : stOk st = true
  rotate_left
  · have hs0 : stOk st = false := by simpa using hs0
    obtain rfl : enNo = t := (telT_no2 (by rw [chgT_no3 hs0])).symm.trans hQ.out
    rw [hs0]
    have hR' := (((((hR.put (i := 0) rfl (.slice none 0 0)).put (i := 1) rfl (.slice none 0 0)).put (i := 2) rfl (.slice none 0 0)).put (i := 3) rfl (.slice none 0 0)).put (i := 4) rfl (.slice none 0 0))
    have hF : Fr ((w.heap.size + 1)) ((w.heap.size + 1) + 1) w2 (((((w2.setCell ⟨(w.heap.size + 1), 0, none⟩ (.slice none 0 0)).setCell ⟨(w.heap.size + 1), 1, none⟩ (.slice none 0 0)).setCell ⟨(w.heap.size + 1), 2, none⟩ (.slice none 0 0)).setCell ⟨(w.heap.size + 1), 3, none⟩ (.slice none 0 0)).setCell ⟨(w.heap.size + 1), 4, none⟩ (.slice none 0 0)) := ((((((Fr.refl _ _ _).setCell ⟨by simp, by simp⟩ _).setCell ⟨by simp, by simp⟩ _).setCell ⟨by simp, by simp⟩ _).setCell ⟨by simp, by simp⟩ _).setCell ⟨by simp, by simp⟩ _)
    have hB' := hB.trans (hF.below (B := w.heap.size) (by omega) (by have := hB.size; omega))
    have k0 := (hR 0 _ rfl).1
    have k1 := (hR 1 _ rfl).1
    have k2 := (hR 2 _ rfl).1
    have k3 := (hR 3 _ rfl).1
    have k4 := (hR 4 _ rfl).1
    have f0 := (hR 0 _ rfl).2
    have f1 := (hR 1 _ rfl).2
    have f2 := (hR 2 _ rfl).2
    have f3 := (hR 3 _ rfl).2
    have f4 := (hR 4 _ rfl).2
    have x0 := (hR' 0 _ rfl).1
    have x1 := (hR' 1 _ rfl).1
    have x2 := (hR' 2 _ rfl).1
    have x3 := (hR' 3 _ rfl).1
    have x4 := (hR' 4 _ rfl).1
    go_wp2
    refine bodyPost_ret (by simp [results, Tryz.results30, go_sem, x0, x1, x2, x3, x4]; try rfl) rfl ?_
    exact ⟨none, 0, none, 0, none, 0, none, 0, none, 0, rfl, IntE.nil_ hB'.size, cap0, hB'⟩
  rw [hs0]
  have hs1 := stOk_in hs0
  have hln : (chgT n nm st).1.length ≤ n.length := chgT_len n nm st
  go_wp2_with fail
  refine (ChangeState_impl An cn n nm st _ hE.ln hE.mn hE.Sn).mono ?_
  have hD0 := Lib.hid (tel_ifU (nm := nm) (st := st) g)
  generalize chgT n nm st = C at hD0 hln ⊢
  obtain ⟨n', d0⟩ := C
  rintro e w3 ⟨A2, c2, rfl, hS2, hcc2, hb⟩
  have hw2 : w.heap.size + 2 ≤ w2.heap.size := hR.lt (by simp)
  have hw3 := hb.size
  replace hX := hX.below (by simp) hb
  replace hR := hR.below (by simp) hb
  replace hE := hE.below hb
  replace hT := hT.below hb
  replace hB := Below.on' hB hb
  clear b0 b1 b2 b3 b4 hb
  have b0 := (hX 0 _ rfl).1
  have b1 := (hX 1 _ rfl).1
  have b2 := (hX 2 _ rfl).1
  have b3 := (hX 3 _ rfl).1
  have b4 := (hX 4 _ rfl).1
  have hl2 : n'.length ≤ 1048576 := Nat.le_trans hln hE.ln
  go_wp2_with fail
  refine (stateBody_a st hs1 _).mono ?_
  rintro e w4 ⟨rfl, hb⟩
  replace hS2 := hS2.below hb
  have hw4 := hb.size
  replace hX := hX.below (by simp) hb
  replace hR := hR.below (by simp) hb
  replace hE := hE.below hb
  replace hT := hT.below hb
  replace hB := Below.on' hB hb
  clear b0 b1 b2 b3 b4 hb
  have b0 := (hX 0 _ rfl).1
  have b1 := (hX 1 _ rfl).1
  have b2 := (hX 2 _ rfl).1
  have b3 := (hX 3 _ rfl).1
  have b4 := (hX 4 _ rfl).1
  go_wp2_with fail
  refine (sendMessage_anyO w.heap.size 2 As cs s Ar cr r Ah ch h nm (stT st) _ hX.c3 hE.ls hE.Ss hE.lr hE.Sr hE.lh hE.Sh).mono ?_
  generalize sndU s r h nm (stT st) = D at hD0 ⊢
  obtain ⟨⟨d1, d2, d3⟩, d⟩ := D
  rintro e w5 ⟨A3, c3, A4, c4, A5, c5, rfl, hI, hb⟩
  have hcp : d1.length ≤ c3 ∧ d2.length ≤ c4 ∧ d3.length ≤ c5 := ⟨hI.o1.cap, hI.o2.cap, hI.o3.cap⟩
  replace hI := hI.ints hb.size
  replace hS2 := hS2.below hb
  have hw5 := hb.size
  replace hX := hX.below (by simp) hb
  replace hR := hR.below (by simp) hb
  replace hE := hE.below hb
  replace hT := hT.below hb
  replace hB := Below.on' hB hb
  clear b0 b1 b2 b3 b4 hb
  have b0 := (hX 0 _ rfl).1
  have b1 := (hX 1 _ rfl).1
  have b2 := (hX 2 _ rfl).1
  have b3 := (hX 3 _ rfl).1
  have b4 := (hX 4 _ rfl).1
  have hI' := hI.below ((Below.refl _ _).alloc (Nat.le_refl _) (.cells #[.slice A3 d1.length c3, .slice A4 d2.length c4, .slice A5 d3.length c5] 26))
  replace hX := hX.alloc (by simp) (.cells #[.slice A3 d1.length c3, .slice A4 d2.length c4, .slice A5 d3.length c5] 26)
  replace hR := hR.alloc (by simp) (.cells #[.slice A3 d1.length c3, .slice A4 d2.length c4, .slice A5 d3.length c5] 26)
  replace hS2 := hS2.alloc (.cells #[.slice A3 d1.length c3, .slice A4 d2.length c4, .slice A5 d3.length c5] 26)
  replace hE := hE.below ((Below.refl _ _).alloc (Nat.le_refl _) (.cells #[.slice A3 d1.length c3, .slice A4 d2.length c4, .slice A5 d3.length c5] 26))
  have hY : BN w5.heap.size [.slice A3 d1.length c3, .slice A4 d2.length c4, .slice A5 d3.length c5] (w5.alloc (.cells #[.slice A3 d1.length c3, .slice A4 d2.length c4, .slice A5 d3.length c5] 26)) := BN.new w5 _ 26 _ rfl
  replace hB := hB.alloc hB.size (.cells #[.slice A3 d1.length c3, .slice A4 d2.length c4, .slice A5 d3.length c5] 26)
  have y0 := (hY 0 _ rfl).1
  have y1 := (hY 1 _ rfl).1
  have y2 := (hY 2 _ rfl).1
  clear b0 b1 b2 b3 b4
  have b0 := (hX 0 _ rfl).1
  have b1 := (hX 1 _ rfl).1
  have b2 := (hX 2 _ rfl).1
  have b3 := (hX 3 _ rfl).1
  have b4 := (hX 4 _ rfl).1
  cases d0 with
  | false =>
    obtain rfl : enNo = t := by rw [← hQ.out, hD0.out]; rfl
    dsimp only at hD0 ⊢
    clear hD0
    have hR' := (((((hR.put (i := 0) rfl (.slice none 0 0)).put (i := 1) rfl (.slice none 0 0)).put (i := 2) rfl (.slice none 0 0)).put (i := 3) rfl (.slice none 0 0)).put (i := 4) rfl (.slice none 0 0))
    have hF : Fr ((w.heap.size + 1)) ((w.heap.size + 1) + 1) (w5.alloc (.cells #[.slice A3 d1.length c3, .slice A4 d2.length c4, .slice A5 d3.length c5] 26)) ((((((w5.alloc (.cells #[.slice A3 d1.length c3, .slice A4 d2.length c4, .slice A5 d3.length c5] 26)).setCell ⟨(w.heap.size + 1), 0, none⟩ (.slice none 0 0)).setCell ⟨(w.heap.size + 1), 1, none⟩ (.slice none 0 0)).setCell ⟨(w.heap.size + 1), 2, none⟩ (.slice none 0 0)).setCell ⟨(w.heap.size + 1), 3, none⟩ (.slice none 0 0)).setCell ⟨(w.heap.size + 1), 4, none⟩ (.slice none 0 0)) := ((((((Fr.refl _ _ _).setCell ⟨by simp, by simp⟩ _).setCell ⟨by simp, by simp⟩ _).setCell ⟨by simp, by simp⟩ _).setCell ⟨by simp, by simp⟩ _).setCell ⟨by simp, by simp⟩ _)
    have hB' := hB.trans (hF.below (B := w.heap.size) (by omega) (by have := hB.size; omega))
    have k0 := (hR 0 _ rfl).1
    have k1 := (hR 1 _ rfl).1
    have k2 := (hR 2 _ rfl).1
    have k3 := (hR 3 _ rfl).1
    have k4 := (hR 4 _ rfl).1
    have f0 := (hR 0 _ rfl).2
    have f1 := (hR 1 _ rfl).2
    have f2 := (hR 2 _ rfl).2
    have f3 := (hR 3 _ rfl).2
    have f4 := (hR 4 _ rfl).2
    have x0 := (hR' 0 _ rfl).1
    have x1 := (hR' 1 _ rfl).1
    have x2 := (hR' 2 _ rfl).1
    have x3 := (hR' 3 _ rfl).1
    have x4 := (hR' 4 _ rfl).1
    go_wp2
    refine bodyPost_ret (by simp [results, Tryz.results30, go_sem, x0, x1, x2, x3, x4]; try rfl) rfl ?_
    exact ⟨none, 0, none, 0, none, 0, none, 0, none, 0, rfl, IntE.nil_ hB'.size, cap0, hB'⟩
  | true =>
  cases d with
  | false =>
    obtain rfl : enNo = t := by rw [← hQ.out, hD0.out]; rfl
    dsimp only at hD0 ⊢
    clear hD0
    have hR' := (((((hR.put (i := 0) rfl (.slice none 0 0)).put (i := 1) rfl (.slice none 0 0)).put (i := 2) rfl (.slice none 0 0)).put (i := 3) rfl (.slice none 0 0)).put (i := 4) rfl (.slice none 0 0))
    have hF : Fr ((w.heap.size + 1)) ((w.heap.size + 1) + 1) (w5.alloc (.cells #[.slice A3 d1.length c3, .slice A4 d2.length c4, .slice A5 d3.length c5] 26)) ((((((w5.alloc (.cells #[.slice A3 d1.length c3, .slice A4 d2.length c4, .slice A5 d3.length c5] 26)).setCell ⟨(w.heap.size + 1), 0, none⟩ (.slice none 0 0)).setCell ⟨(w.heap.size + 1), 1, none⟩ (.slice none 0 0)).setCell ⟨(w.heap.size + 1), 2, none⟩ (.slice none 0 0)).setCell ⟨(w.heap.size + 1), 3, none⟩ (.slice none 0 0)).setCell ⟨(w.heap.size + 1), 4, none⟩ (.slice none 0 0)) := ((((((Fr.refl _ _ _).setCell ⟨by simp, by simp⟩ _).setCell ⟨by simp, by simp⟩ _).setCell ⟨by simp, by simp⟩ _).setCell ⟨by simp, by simp⟩ _).setCell ⟨by simp, by simp⟩ _)
    have hB' := hB.trans (hF.below (B := w.heap.size) (by omega) (by have := hB.size; omega))
    have k0 := (hR 0 _ rfl).1
    have k1 := (hR 1 _ rfl).1
    have k2 := (hR 2 _ rfl).1
    have k3 := (hR 3 _ rfl).1
    have k4 := (hR 4 _ rfl).1
    have f0 := (hR 0 _ rfl).2
    have f1 := (hR 1 _ rfl).2
    have f2 := (hR 2 _ rfl).2
    have f3 := (hR 3 _ rfl).2
    have f4 := (hR 4 _ rfl).2
    have x0 := (hR' 0 _ rfl).1
    have x1 := (hR' 1 _ rfl).1
    have x2 := (hR' 2 _ rfl).1
    have x3 := (hR' 3 _ rfl).1
    have x4 := (hR' 4 _ rfl).1
    go_wp2
    refine bodyPost_ret (by simp [results, Tryz.results30, go_sem, x0, x1, x2, x3, x4]; try rfl) rfl ?_
    exact ⟨none, 0, none, 0, none, 0, none, 0, none, 0, rfl, IntE.nil_ hB'.size, cap0, hB'⟩
  | true =>
    obtain rfl : ((f, n', d1, d2, d3), true) = t := by rw [← hQ.out, hD0.out]; rfl
    clear hD0 hQ
    dsimp only
    have hbd : Below w5.heap.size w5 (w5.alloc (.cells #[.slice A3 d1.length c3, .slice A4 d2.length c4, .slice A5 d3.length c5] 26)).drew := ((Below.refl _ _).alloc (Nat.le_refl _) (.cells #[.slice A3 d1.length c3, .slice A4 d2.length c4, .slice A5 d3.length c5] 26)).drew
    go_wp2_with fail
    refine wp_region_held_drew (S := fun w' => w'.cell? ⟨w.heap.size, 0, none⟩ = some (.slice Af f.length cf) ∧ w'.cell? ⟨w5.heap.size, 0, none⟩ = some (.slice A3 d1.length c3) ∧ w'.cell? ⟨w5.heap.size, 1, none⟩ = some (.slice A4 d2.length c4) ∧ w'.cell? ⟨w5.heap.size, 2, none⟩ = some (.slice A5 d3.length c5)) (by kernel_rfl) ⟨b0, y0, y1, y2⟩ (fun hHeld => ?_)
    have hz5 : (w5.alloc (.cells #[.slice A3 d1.length c3, .slice A4 d2.length c4, .slice A5 d3.length c5] 26)).drew.heap.size = w5.heap.size + 1 := by rw [show (w5.alloc (.cells #[.slice A3 d1.length c3, .slice A4 d2.length c4, .slice A5 d3.length c5] 26)).drew.heap.size = (w5.alloc (.cells #[.slice A3 d1.length c3, .slice A4 d2.length c4, .slice A5 d3.length c5] 26)).heap.size from rfl]; simp
    have hX0 : BN w.heap.size [.slice Af f.length cf, .slice An n.length cn, .slice As s.length cs, .slice Ar r.length cr, .slice Ah h.length ch] (w5.alloc (.cells #[.slice A3 d1.length c3, .slice A4 d2.length c4, .slice A5 d3.length c5] 26)).drew := hX.drew
    have hY0 : BN w5.heap.size [.slice A3 d1.length c3, .slice A4 d2.length c4, .slice A5 d3.length c5] (w5.alloc (.cells #[.slice A3 d1.length c3, .slice A4 d2.length c4, .slice A5 d3.length c5] 26)).drew := hY.drew
    have hR0 : BN (w.heap.size + 1) [.slice none 0 0, .slice none 0 0, .slice none 0 0, .slice none 0 0, .slice none 0 0] (w5.alloc (.cells #[.slice A3 d1.length c3, .slice A4 d2.length c4, .slice A5 d3.length c5] 26)).drew := hR.drew
    have hS0 := hS2.drew
    have hE0 : EA (w5.alloc (.cells #[.slice A3 d1.length c3, .slice A4 d2.length c4, .slice A5 d3.length c5] 26)).drew Af cf f An cn n As cs s Ar cr r Ah ch h := hE.below (Below.refl _ _).drew
    have hB0 := hB.drew
    clear hX hY hR hS2 hE hB b0 b1 b2 b3 b4 y0 y1 y2
    generalize (w5.alloc (.cells #[.slice A3 d1.length c3, .slice A4 d2.length c4, .slice A5 d3.length c5] 26)).drew = W0 at hbd hz5 hX0 hY0 hR0 hS0 hE0 hB0 hHeld ⊢
    change wpAnyH _ _ _ _ _ 8 #[false, false, false, false, false, false, false, false] _ _
    refine wpAnyH_takeL (i := 0) (v := .pointer (some ⟨w.heap.size, 0, none⟩)) rfl (by kernel_rfl) (by kernel_rfl) (by kernel_rfl) (fun _ _ _ h => h) (Or.inl ⟨by rfl, fun w' hSw => by obtain ⟨z0, z1, z2, z3⟩ := hSw; go_simp⟩) (by assumption) ?_
    simp only [Act.put, List.setIfInBounds_toArray, List.set_cons_zero, List.set_cons_succ]
    refine wpAnyH_takeL (i := 1) (v := .slice Af f.length cf) rfl (by kernel_rfl) (by kernel_rfl) (by kernel_rfl) (fun _ _ _ h => h) (Or.inl ⟨by rfl, fun w' hSw => by obtain ⟨z0, z1, z2, z3⟩ := hSw; go_simp⟩) (by assumption) ?_
    simp only [Act.put, List.setIfInBounds_toArray, List.set_cons_zero, List.set_cons_succ]
    refine wpAnyH_takeL (i := 3) (v := .slice A2 n'.length c2) rfl (by kernel_rfl) (by kernel_rfl) (by kernel_rfl) (fun _ _ _ h => h) (Or.inl ⟨by rfl, fun w' hSw => by obtain ⟨z0, z1, z2, z3⟩ := hSw; go_simp⟩) (by assumption) ?_
    simp only [Act.put, List.setIfInBounds_toArray, List.set_cons_zero, List.set_cons_succ]
    refine wpAnyH_takeL (i := 4) (v := .agg #[.slice A3 d1.length c3, .slice A4 d2.length c4, .slice A5 d3.length c5]) rfl (by kernel_rfl) (by kernel_rfl) (by kernel_rfl) (fun _ _ _ h => h) (Or.inl ⟨by rfl, fun w' hSw => by obtain ⟨z0, z1, z2, z3⟩ := hSw; go_simp⟩) (by assumption) ?_
    simp only [Act.put, List.setIfInBounds_toArray, List.set_cons_zero, List.set_cons_succ]
    refine wpAnyH_ready (rs := [2]) (by kernel_rfl) (by simp) ?_
    refine AllReadyH.consL rfl (fun K hK => ?_) AllReadyH.nil
    go_simp
    go_at_call 105
    refine (App.Clone_any Af cf f _ hE0.lf hE0.Sf).mono ?_
    rintro e w6 ⟨A1, c1, rfl, hO, hb⟩
    have hz6 := hb.size
    have hX6 := hX0.below (by simp) hb
    have hY6 := hY0.below (by simp) hb
    have hR6 := hR0.below (by simp) hb
    have hB6 := Below.on' hB0 hb
    have hI6 : IntE w6 (w.heap.size + 2) A1 f A2 n' A3 d1 A4 d2 A5 d3 := IntE.of_t ((hO.sl App.len).mono (by omega) (Nat.le_refl _) (Nat.le_refl _)) (hS0.below hb) hI (hbd.trans (hb.mono (by omega))) hw2 hw3 hw4 hw5
    go_simp
    refine hK.out _ _ ⟨(hX6 0 _ rfl).1, (hY6 0 _ rfl).1, (hY6 1 _ rfl).1, (hY6 2 _ rfl).1⟩ (fun hHeld => ?_)
    clear hK K hX0 hY0 hR0 hS0 hE0 hB0 hb hO
    simp only [List.setIfInBounds_toArray, List.set_cons_zero, List.set_cons_succ]
    refine wpAnyH_takeL (i := 5) (v := .agg #[.slice A1 f.length c1, .slice A2 n'.length c2, .slice A3 d1.length c3, .slice A4 d2.length c4, .slice A5 d3.length c5]) rfl (by kernel_rfl) (by kernel_rfl) (by kernel_rfl) (fun _ _ _ h => h) (Or.inl ⟨by rfl, fun w' hSw => by obtain ⟨z0, z1, z2, z3⟩ := hSw; go_simp⟩) (by assumption) ?_
    simp only [Act.put, List.setIfInBounds_toArray, List.set_cons_zero, List.set_cons_succ]
    refine wpAnyH_ready (rs := [6]) (by kernel_rfl) (by simp) ?_
    refine AllReadyH.consL rfl (fun K hK => ?_) AllReadyH.nil
    have hRl := hR6.lt (by simp)
    have hYl := hY6.lt (by simp)
    have k0 := (hR6 0 _ rfl).1
    have f0 := (hR6 0 _ rfl).2
    have k1 := (hR6 1 _ rfl).1
    have f1 := (hR6 1 _ rfl).2
    have k2 := (hR6 2 _ rfl).1
    have f2 := (hR6 2 _ rfl).2
    have k3 := (hR6 3 _ rfl).1
    have f3 := (hR6 3 _ rfl).2
    have k4 := (hR6 4 _ rfl).1
    have f4 := (hR6 4 _ rfl).2
    go_simp
    have hR' := (((((hR6.put (i := 0) rfl (.slice A1 f.length c1)).put (i := 1) rfl (.slice A2 n'.length c2)).put (i := 2) rfl (.slice A3 d1.length c3)).put (i := 3) rfl (.slice A4 d2.length c4)).put (i := 4) rfl (.slice A5 d3.length c5))
    have hF : Fr ((w.heap.size + 1)) ((w.heap.size + 1) + 1) w6 (((((w6.setCell ⟨(w.heap.size + 1), 0, none⟩ (.slice A1 f.length c1)).setCell ⟨(w.heap.size + 1), 1, none⟩ (.slice A2 n'.length c2)).setCell ⟨(w.heap.size + 1), 2, none⟩ (.slice A3 d1.length c3)).setCell ⟨(w.heap.size + 1), 3, none⟩ (.slice A4 d2.length c4)).setCell ⟨(w.heap.size + 1), 4, none⟩ (.slice A5 d3.length c5)) := ((((((Fr.refl _ _ _).setCell ⟨by simp, by simp⟩ _).setCell ⟨by simp, by simp⟩ _).setCell ⟨by simp, by simp⟩ _).setCell ⟨by simp, by simp⟩ _).setCell ⟨by simp, by simp⟩ _)
    have hB' := hB6.trans (hF.below (B := w.heap.size) (by omega) (by omega))
    have hX' := hX6.same (hF.block _ (by omega) (by omega))
    have hY' := hY6.same (hF.block _ (by omega) (by omega))
    refine hK.out _ _ ⟨(hX' 0 _ rfl).1, (hY' 0 _ rfl).1, (hY' 1 _ rfl).1, (hY' 2 _ rfl).1⟩ (fun _ => ?_)
    clear hK K
    simp only [List.setIfInBounds_toArray, List.set_cons_zero, List.set_cons_succ]
    refine wpAnyH_takeL (i := 7) (v := .bool true) rfl (by kernel_rfl) (by kernel_rfl) (by kernel_rfl) (fun _ _ _ h => h) (Or.inl ⟨by rfl, fun w' hSw => by obtain ⟨z0, z1, z2, z3⟩ := hSw; go_simp⟩) ⟨(hX' 0 _ rfl).1, (hY' 0 _ rfl).1, (hY' 1 _ rfl).1, (hY' 2 _ rfl).1⟩ ?_
    simp only [Act.put, List.setIfInBounds_toArray, List.set_cons_zero, List.set_cons_succ]
    have x0 := (hR' 0 _ rfl).1
    have x1 := (hR' 1 _ rfl).1
    have x2 := (hR' 2 _ rfl).1
    have x3 := (hR' 3 _ rfl).1
    have x4 := (hR' 4 _ rfl).1
    refine wpAnyH_done (by kernel_rfl) ?_ _
    go_wp2
    refine bodyPost_ret (by simp [results, Tryz.results30, go_sem, x0, x1, x2, x3, x4]; try rfl) rfl ?_
    exact ⟨A1, c1, A2, c2, A3, c3, A4, c4, A5, c5, rfl, (hI6.fr hF (by omega)).lift (by omega), hcp, hB'⟩
set_option maxRecDepth 100000 in
set_option maxHeartbeats 8000000 in
theorem ReceiveAt_implC (Af : Option Addr) (cf : Nat) (f : List App) (An : Option Addr) (cn : Nat) (n : List App) (As : Option Addr) (cs : Nat) (s : List Msg) (Ar : Option Addr) (cr : Nat) (r : List Msg) (Ah : Option Addr) (ch : Nat) (h : List Msg) (i : Int) (w : World) (hE : EA w Af cf f An cn n As cs s Ar cr r Ah ch h) (hT : Said w) :
    Calls Tryz.prog 50 #[.agg #[.slice Af f.length cf, .slice An n.length cn, .slice As s.length cs, .slice Ar r.length cr, .slice Ah h.length ch], .int .i64 i] w (RENC w (recT f n s r h i)) := by
  generalize hQ : recT f n s r h i = t
  replace hQ := Lib.hid hQ
  have e1 : (w.alloc (.cells #[.slice Af f.length cf, .slice An n.length cn, .slice As s.length cs, .slice Ar r.length cr, .slice Ah h.length ch] 52)).heap.size = w.heap.size + 1 := by simp
  have hB : Below w.heap.size w ((w.alloc (.cells #[.slice Af f.length cf, .slice An n.length cn, .slice As s.length cs, .slice Ar r.length cr, .slice Ah h.length ch] 52)).alloc (.cells #[.slice none 0 0, .slice none 0 0, .slice none 0 0, .slice none 0 0, .slice none 0 0] 52)) := by go_grown
  have hX : BN w.heap.size [.slice Af f.length cf, .slice An n.length cn, .slice As s.length cs, .slice Ar r.length cr, .slice Ah h.length ch] ((w.alloc (.cells #[.slice Af f.length cf, .slice An n.length cn, .slice As s.length cs, .slice Ar r.length cr, .slice Ah h.length ch] 52)).alloc (.cells #[.slice none 0 0, .slice none 0 0, .slice none 0 0, .slice none 0 0, .slice none 0 0] 52)) := (BN.new w #[.slice Af f.length cf, .slice An n.length cn, .slice As s.length cs, .slice Ar r.length cr, .slice Ah h.length ch] 52 _ rfl).alloc (by simp) (.cells #[.slice none 0 0, .slice none 0 0, .slice none 0 0, .slice none 0 0, .slice none 0 0] 52)
  have hR : BN (w.heap.size + 1) [.slice none 0 0, .slice none 0 0, .slice none 0 0, .slice none 0 0, .slice none 0 0] ((w.alloc (.cells #[.slice Af f.length cf, .slice An n.length cn, .slice As s.length cs, .slice Ar r.length cr, .slice Ah h.length ch] 52)).alloc (.cells #[.slice none 0 0, .slice none 0 0, .slice none 0 0, .slice none 0 0, .slice none 0 0] 52)) := BN.new (w.alloc (.cells #[.slice Af f.length cf, .slice An n.length cn, .slice As s.length cs, .slice Ar r.length cr, .slice Ah h.length ch] 52)) #[.slice none 0 0, .slice none 0 0, .slice none 0 0, .slice none 0 0, .slice none 0 0] 52 (w.heap.size + 1) e1.symm
  have hE0 := hE
  replace hE := hE.below hB
  replace hT := hT.below hB
  have b0 := (hX 0 _ rfl).1
  have b1 := (hX 1 _ rfl).1
  have b2 := (hX 2 _ rfl).1
  have b3 := (hX 3 _ rfl).1
  have b4 := (hX 4 _ rfl).1
  go_enter Tryz.func50, Tryz.ntmps50
  go_wp2_with fail
  refine (areEnds_any Af cf f An cn n As cs s Ar cr r Ah ch h _ w.heap.size hX hE.lf hE.mf hE.Sf hE.ln hE.mn hE.Sn hE.ls hE.ms hE.Ss hE.ks hE.lr hE.mr hE.Sr hE.kr hE.lh hE.mh hE.Sh hE.kh hT).mono ?_
  rintro e w1 ⟨rfl, hb⟩
  replace hX := hX.below (by simp) hb
  replace hR := hR.below (by simp) hb
  replace hE := hE.below hb
  replace hT := hT.below hb
  replace hB := Below.on' hB hb
  clear b0 b1 b2 b3 b4 hb
  have b0 := (hX 0 _ rfl).1
  have b1 := (hX 1 _ rfl).1
  have b2 := (hX 2 _ rfl).1
  have b3 := (hX 3 _ rfl).1
  have b4 := (hX 4 _ rfl).1
  have hw1 : w.heap.size + 2 ≤ w1.heap.size := hR.lt (by simp)
  by_cases g : endsB f n s r h = true
  rotate_left
  · have g : endsB f n s r h = false := by simpa using g
    obtain rfl : enNo = t := (recT_no1 g).symm.trans hQ.out
    rw [g]
    have hR' := (((((hR.put (i := 0) rfl (.slice none 0 0)).put (i := 1) rfl (.slice none 0 0)).put (i := 2) rfl (.slice none 0 0)).put (i := 3) rfl (.slice none 0 0)).put (i := 4) rfl (.slice none 0 0))
    have hF : Fr ((w.heap.size + 1)) ((w.heap.size + 1) + 1) w1 (((((w1.setCell ⟨(w.heap.size + 1), 0, none⟩ (.slice none 0 0)).setCell ⟨(w.heap.size + 1), 1, none⟩ (.slice none 0 0)).setCell ⟨(w.heap.size + 1), 2, none⟩ (.slice none 0 0)).setCell ⟨(w.heap.size + 1), 3, none⟩ (.slice none 0 0)).setCell ⟨(w.heap.size + 1), 4, none⟩ (.slice none 0 0)) := ((((((Fr.refl _ _ _).setCell ⟨by simp, by simp⟩ _).setCell ⟨by simp, by simp⟩ _).setCell ⟨by simp, by simp⟩ _).setCell ⟨by simp, by simp⟩ _).setCell ⟨by simp, by simp⟩ _)
    have hB' := hB.trans (hF.below (B := w.heap.size) (by omega) (by have := hB.size; omega))
    have k0 := (hR 0 _ rfl).1
    have k1 := (hR 1 _ rfl).1
    have k2 := (hR 2 _ rfl).1
    have k3 := (hR 3 _ rfl).1
    have k4 := (hR 4 _ rfl).1
    have f0 := (hR 0 _ rfl).2
    have f1 := (hR 1 _ rfl).2
    have f2 := (hR 2 _ rfl).2
    have f3 := (hR 3 _ rfl).2
    have f4 := (hR 4 _ rfl).2
    have x0 := (hR' 0 _ rfl).1
    have x1 := (hR' 1 _ rfl).1
    have x2 := (hR' 2 _ rfl).1
    have x3 := (hR' 3 _ rfl).1
    have x4 := (hR' 4 _ rfl).1
    go_wp2
    refine bodyPost_ret (by simp [results, Tryz.results50, go_sem, x0, x1, x2, x3, x4]; try rfl) rfl ?_
    exact ⟨none, 0, none, 0, none, 0, none, 0, none, 0, rfl, IntE.nil_ hB'.size, cap0, hB'⟩
  rw [g]
  have hlw : wrap64 ((s.length : Int) - 1) = (s.length : Int) - 1 := by have := hE.ls; unfold wrap64; omega
  go_wp2_with fail
  clear hlw
  refine (inside_any i 0 _ _).mono ?_
  rintro e w2 ⟨rfl, hb⟩
  replace hX := hX.below (by simp) hb
  replace hR := hR.below (by simp) hb
  replace hE := hE.below hb
  replace hT := hT.below hb
  replace hB := Below.on' hB hb
  clear b0 b1 b2 b3 b4 hb
  have b0 := (hX 0 _ rfl).1
  have b1 := (hX 1 _ rfl).1
  have b2 := (hX 2 _ rfl).1
  have b3 := (hX 3 _ rfl).1
  have b4 := (hX 4 _ rfl).1
  have hw2 : w.heap.size + 2 ≤ w2.heap.size := hR.lt (by simp)
  by_cases g2 : inB i 0 ((s.length : Int) - 1) = true
  rotate_left
  · have g2 : inB i 0 ((s.length : Int) - 1) = false := by simpa using g2
    obtain rfl : enNo = t := (recT_no2 g2).symm.trans hQ.out
    rw [g2]
    have hR' := (((((hR.put (i := 0) rfl (.slice none 0 0)).put (i := 1) rfl (.slice none 0 0)).put (i := 2) rfl (.slice none 0 0)).put (i := 3) rfl (.slice none 0 0)).put (i := 4) rfl (.slice none 0 0))
    have hF : Fr ((w.heap.size + 1)) ((w.heap.size + 1) + 1) w2 (((((w2.setCell ⟨(w.heap.size + 1), 0, none⟩ (.slice none 0 0)).setCell ⟨(w.heap.size + 1), 1, none⟩ (.slice none 0 0)).setCell ⟨(w.heap.size + 1), 2, none⟩ (.slice none 0 0)).setCell ⟨(w.heap.size + 1), 3, none⟩ (.slice none 0 0)).setCell ⟨(w.heap.size + 1), 4, none⟩ (.slice none 0 0)) := ((((((Fr.refl _ _ _).setCell ⟨by simp, by simp⟩ _).setCell ⟨by simp, by simp⟩ _).setCell ⟨by simp, by simp⟩ _).setCell ⟨by simp, by simp⟩ _).setCell ⟨by simp, by simp⟩ _)
    have hB' := hB.trans (hF.below (B := w.heap.size) (by omega) (by have := hB.size; omega))
    have k0 := (hR 0 _ rfl).1
    have k1 := (hR 1 _ rfl).1
    have k2 := (hR 2 _ rfl).1
    have k3 := (hR 3 _ rfl).1
    have k4 := (hR 4 _ rfl).1
    have f0 := (hR 0 _ rfl).2
    have f1 := (hR 1 _ rfl).2
    have f2 := (hR 2 _ rfl).2
    have f3 := (hR 3 _ rfl).2
    have f4 := (hR 4 _ rfl).2
    have x0 := (hR' 0 _ rfl).1
    have x1 := (hR' 1 _ rfl).1
    have x2 := (hR' 2 _ rfl).1
    have x3 := (hR' 3 _ rfl).1
    have x4 := (hR' 4 _ rfl).1
    go_wp2
    refine bodyPost_ret (by simp [results, Tryz.results50, go_sem, x0, x1, x2, x3, x4]; try rfl) rfl ?_
    exact ⟨none, 0, none, 0, none, 0, none, 0, none, 0, rfl, IntE.nil_ hB'.size, cap0, hB'⟩
  rw [g2]
  obtain ⟨k, rfl, hk⟩ := nat_of g2
  obtain ⟨m, hm, _⟩ := get_lt hk
  obtain rfl := (recT_yes g g2 hm).symm.trans hQ.out
  have hlr := hE.lr
  clear hQ g g2
  go_wp2_with fail
  refine (copyEnds_any w.heap.size Af cf f An cn n As cs s Ar cr r Ah ch h _ hX hE.lf hE.Sf hE.ln hE.Sn hE.ls hE.Ss hE.lr hE.Sr hE.lh hE.Sh).mono ?_
  rintro e w3 ⟨A1, c1, A2, c2, A3, c3, A4, c4, A5, c5, rfl, hC, hb⟩
  have hls := hE.ls
  replace hR := hR.below (by simp) hb
  replace hB := Below.on' hB hb
  obtain ⟨m1, m2, q⟩ := RI.start (c1 := c1) (c2 := c2) hC hR hB (show w.heap.size + 2 ≤ w2.heap.size from hw2)
  clear b0 b1 b2 b3 b4 hb hC hR hX hE hT hB hE0
  go_wp2_with fail
  refine (q.deliver hls hlr k m hm).mono ?_
  rintro e w4 ⟨A', c', rfl, q', _, _, _⟩
  clear q
  have q := q'
  clear q'
  have hR := q.R
  have hB := q.B
  have hlt := hR.lt (by simp)
  have q0 := q.k0
  have y0 := (q.Y 0 _ rfl).1
  have y1 := (q.Y 1 _ rfl).1
  have y2 := (q.Y 2 _ rfl).1
  have y3 := (q.Y 3 _ rfl).1
  have y4 := (q.Y 4 _ rfl).1
  have hR' := (((((hR.put (i := 0) rfl (.slice A1 f.length c1)).put (i := 1) rfl (.slice A2 n.length c2)).put (i := 2) rfl (.slice A3 s.length c3)).put (i := 3) rfl (.slice A' (addM r m).length c')).put (i := 4) rfl (.slice A5 h.length c5))
  have hF : Fr ((w.heap.size + 1)) ((w.heap.size + 1) + 1) w4 (((((w4.setCell ⟨(w.heap.size + 1), 0, none⟩ (.slice A1 f.length c1)).setCell ⟨(w.heap.size + 1), 1, none⟩ (.slice A2 n.length c2)).setCell ⟨(w.heap.size + 1), 2, none⟩ (.slice A3 s.length c3)).setCell ⟨(w.heap.size + 1), 3, none⟩ (.slice A' (addM r m).length c')).setCell ⟨(w.heap.size + 1), 4, none⟩ (.slice A5 h.length c5)) := ((((((Fr.refl _ _ _).setCell ⟨by simp, by simp⟩ _).setCell ⟨by simp, by simp⟩ _).setCell ⟨by simp, by simp⟩ _).setCell ⟨by simp, by simp⟩ _).setCell ⟨by simp, by simp⟩ _)
  have hB' := hB.trans (hF.below (B := w.heap.size) (by omega) (by have := hB.size; omega))
  have k0 := (hR 0 _ rfl).1
  have k1 := (hR 1 _ rfl).1
  have k2 := (hR 2 _ rfl).1
  have k3 := (hR 3 _ rfl).1
  have k4 := (hR 4 _ rfl).1
  have f0 := (hR 0 _ rfl).2
  have f1 := (hR 1 _ rfl).2
  have f2 := (hR 2 _ rfl).2
  have f3 := (hR 3 _ rfl).2
  have f4 := (hR 4 _ rfl).2
  have x0 := (hR' 0 _ rfl).1
  have x1 := (hR' 1 _ rfl).1
  have x2 := (hR' 2 _ rfl).1
  have x3 := (hR' 3 _ rfl).1
  have x4 := (hR' 4 _ rfl).1
  go_wp2
  refine bodyPost_ret (by simp [results, Tryz.results50, go_sem, x0, x1, x2, x3, x4]; try rfl) rfl ?_
  exact ⟨A1, c1, A2, c2, A3, c3, A', c', A5, c5, rfl, q.done hF, ⟨q.O.o1.cap, q.O.o2.cap, q.O.o3.cap⟩, hB'⟩
set_option maxRecDepth 100000 in
set_option maxHeartbeats 8000000 in
theorem ReceiveAll_implC (Af : Option Addr) (cf : Nat) (f : List App) (An : Option Addr) (cn : Nat) (n : List App) (As : Option Addr) (cs : Nat) (s : List Msg) (Ar : Option Addr) (cr : Nat) (r : List Msg) (Ah : Option Addr) (ch : Nat) (h : List Msg) (w : World) (hE : EA w Af cf f An cn n As cs s Ar cr r Ah ch h) (hT : Said w) :
    Calls Tryz.prog 32 #[.agg #[.slice Af f.length cf, .slice An n.length cn, .slice As s.length cs, .slice Ar r.length cr, .slice Ah h.length ch]] w (RENC w (rallT f n s r h)) := by
  generalize hQ : rallT f n s r h = t
  replace hQ := Lib.hid hQ
  have e1 : (w.alloc (.cells #[.slice Af f.length cf, .slice An n.length cn, .slice As s.length cs, .slice Ar r.length cr, .slice Ah h.length ch] 52)).heap.size = w.heap.size + 1 := by simp
  have hB : Below w.heap.size w ((w.alloc (.cells #[.slice Af f.length cf, .slice An n.length cn, .slice As s.length cs, .slice Ar r.length cr, .slice Ah h.length ch] 52)).alloc (.cells #[.slice none 0 0, .slice none 0 0, .slice none 0 0, .slice none 0 0, .slice none 0 0] 52)) := by go_grown
  have hX : BN w.heap.size [.slice Af f.length cf, .slice An n.length cn, .slice As s.length cs, .slice Ar r.length cr, .slice Ah h.length ch] ((w.alloc (.cells #[.slice Af f.length cf, .slice An n.length cn, .slice As s.length cs, .slice Ar r.length cr, .slice Ah h.length ch] 52)).alloc (.cells #[.slice none 0 0, .slice none 0 0, .slice none 0 0, .slice none 0 0, .slice none 0 0] 52)) := (BN.new w #[.slice Af f.length cf, .slice An n.length cn, .slice As s.length cs, .slice Ar r.length cr, .slice Ah h.length ch] 52 _ rfl).alloc (by simp) (.cells #[.slice none 0 0, .slice none 0 0, .slice none 0 0, .slice none 0 0, .slice none 0 0] 52)
  have hR : BN (w.heap.size + 1) [.slice none 0 0, .slice none 0 0, .slice none 0 0, .slice none 0 0, .slice none 0 0] ((w.alloc (.cells #[.slice Af f.length cf, .slice An n.length cn, .slice As s.length cs, .slice Ar r.length cr, .slice Ah h.length ch] 52)).alloc (.cells #[.slice none 0 0, .slice none 0 0, .slice none 0 0, .slice none 0 0, .slice none 0 0] 52)) := BN.new (w.alloc (.cells #[.slice Af f.length cf, .slice An n.length cn, .slice As s.length cs, .slice Ar r.length cr, .slice Ah h.length ch] 52)) #[.slice none 0 0, .slice none 0 0, .slice none 0 0, .slice none 0 0, .slice none 0 0] 52 (w.heap.size + 1) e1.symm
  have hE0 := hE
  replace hE := hE.below hB
  replace hT := hT.below hB
  have b0 := (hX 0 _ rfl).1
  have b1 := (hX 1 _ rfl).1
  have b2 := (hX 2 _ rfl).1
  have b3 := (hX 3 _ rfl).1
  have b4 := (hX 4 _ rfl).1
  go_enter Tryz.func32, Tryz.ntmps32
  go_wp2_with fail
  refine (areEnds_any Af cf f An cn n As cs s Ar cr r Ah ch h _ w.heap.size hX hE.lf hE.mf hE.Sf hE.ln hE.mn hE.Sn hE.ls hE.ms hE.Ss hE.ks hE.lr hE.mr hE.Sr hE.kr hE.lh hE.mh hE.Sh hE.kh hT).mono ?_
  rintro e w1 ⟨rfl, hb⟩
  replace hX := hX.below (by simp) hb
  replace hR := hR.below (by simp) hb
  replace hE := hE.below hb
  replace hT := hT.below hb
  replace hB := Below.on' hB hb
  clear b0 b1 b2 b3 b4 hb
  have b0 := (hX 0 _ rfl).1
  have b1 := (hX 1 _ rfl).1
  have b2 := (hX 2 _ rfl).1
  have b3 := (hX 3 _ rfl).1
  have b4 := (hX 4 _ rfl).1
  have hw1 : w.heap.size + 2 ≤ w1.heap.size := hR.lt (by simp)
  by_cases g : endsB f n s r h = true
  rotate_left
  · have g : endsB f n s r h = false := by simpa using g
    obtain rfl : enNo = t := (rallT_no g).symm.trans hQ.out
    rw [g]
    have hR' := (((((hR.put (i := 0) rfl (.slice none 0 0)).put (i := 1) rfl (.slice none 0 0)).put (i := 2) rfl (.slice none 0 0)).put (i := 3) rfl (.slice none 0 0)).put (i := 4) rfl (.slice none 0 0))
    have hF : Fr ((w.heap.size + 1)) ((w.heap.size + 1) + 1) w1 (((((w1.setCell ⟨(w.heap.size + 1), 0, none⟩ (.slice none 0 0)).setCell ⟨(w.heap.size + 1), 1, none⟩ (.slice none 0 0)).setCell ⟨(w.heap.size + 1), 2, none⟩ (.slice none 0 0)).setCell ⟨(w.heap.size + 1), 3, none⟩ (.slice none 0 0)).setCell ⟨(w.heap.size + 1), 4, none⟩ (.slice none 0 0)) := ((((((Fr.refl _ _ _).setCell ⟨by simp, by simp⟩ _).setCell ⟨by simp, by simp⟩ _).setCell ⟨by simp, by simp⟩ _).setCell ⟨by simp, by simp⟩ _).setCell ⟨by simp, by simp⟩ _)
    have hB' := hB.trans (hF.below (B := w.heap.size) (by omega) (by have := hB.size; omega))
    have k0 := (hR 0 _ rfl).1
    have k1 := (hR 1 _ rfl).1
    have k2 := (hR 2 _ rfl).1
    have k3 := (hR 3 _ rfl).1
    have k4 := (hR 4 _ rfl).1
    have f0 := (hR 0 _ rfl).2
    have f1 := (hR 1 _ rfl).2
    have f2 := (hR 2 _ rfl).2
    have f3 := (hR 3 _ rfl).2
    have f4 := (hR 4 _ rfl).2
    have x0 := (hR' 0 _ rfl).1
    have x1 := (hR' 1 _ rfl).1
    have x2 := (hR' 2 _ rfl).1
    have x3 := (hR' 3 _ rfl).1
    have x4 := (hR' 4 _ rfl).1
    go_wp2
    refine bodyPost_ret (by simp [results, Tryz.results32, go_sem, x0, x1, x2, x3, x4]; try rfl) rfl ?_
    exact ⟨none, 0, none, 0, none, 0, none, 0, none, 0, rfl, IntE.nil_ hB'.size, cap0, hB'⟩
  rw [g]
  have p3 := (ends_parts g).2.2.1
  have G0 := ChanG.of p3
  obtain ⟨n1, n2, n3⟩ := chan_len p3
  obtain rfl := (rallT_yes g).symm.trans hQ.out
  clear hQ g p3
  go_wp2_with fail
  refine (copyEnds_any w.heap.size Af cf f An cn n As cs s Ar cr r Ah ch h _ hX hE.lf hE.Sf hE.ln hE.Sn hE.ls hE.Ss hE.lr hE.Sr hE.lh hE.Sh).mono ?_
  rintro e w3 ⟨A1, c1, A2, c2, A3, c3, A4, c4, A5, c5, rfl, hC, hb⟩
  have hls := hE.ls
  replace hR := hR.below (by simp) hb
  replace hB := Below.on' hB hb
  obtain ⟨m1, m2, q⟩ := RI.start (c1 := c1) (c2 := c2) hC hR hB (show w.heap.size + 2 ≤ w1.heap.size from hw1)
  clear b0 b1 b2 b3 b4 hb hC hR hX hE hT hB hE0
  have y0 := (q.Y 0 _ rfl).1
  have y1 := (q.Y 1 _ rfl).1
  have y2 := (q.Y 2 _ rfl).1
  have y3 := (q.Y 3 _ rfl).1
  have y4 := (q.Y 4 _ rfl).1
  go_wp2_with fail
  go_loopw [14] (fun i wr => ∃ (k : Nat) (r' : List Msg) (A4 : Option Addr) (c4 : Nat), k ≤ s.length ∧ i = .int .i64 k ∧ Hid (r' = (s.take k).foldl addM r) ∧ r'.length ≤ 30 + k ∧ RI w w1.heap.size m1 m2 w3.heap.size f n A1 c1 A2 c2 A3 c3 s A4 c4 r' A5 c5 h wr) (fun i _ => s.length - (intOf i).toNat)
  case atStart => exact ⟨0, r, A4, c4, Nat.zero_le _, rfl, Lib.hid rfl, by omega, q⟩
  case round =>
    clear q G0 y0 y1 y2 y3 y4
    obtain ⟨k, r', A4, c4, hk, rfl, HX, hlr', q⟩ := hrel
    by_cases hlt : k < s.length
    · obtain ⟨m, hm, _⟩ := get_lt hlt
      have HX' : Hid (addM r' m = (s.take (k + 1)).foldl addM r) := Lib.hid (by rw [HX.out, ← rall_snoc hm])
      have hal := addM_len r' m
      clear HX
      have y0 := (q.Y 0 _ rfl).1
      have y1 := (q.Y 1 _ rfl).1
      have y2 := (q.Y 2 _ rfl).1
      have y3 := (q.Y 3 _ rfl).1
      have y4 := (q.Y 4 _ rfl).1
      go_wp2_with fail
      refine (q.deliver hls (by omega) k m hm).mono ?_
      rintro e V ⟨A', c', rfl, q', _, _, _⟩
      clear q y0 y1 y2 y3 y4
      go_wp2
      go_roundw
      case rel => exact ⟨k + 1, addM r' m, A', c', by omega, by go_num, HX', by omega, q'⟩
      case measure => simp [intOf]; omega
    · obtain rfl : r' = s.foldl addM r := by rw [HX.out, List.take_of_length_le (by omega)]
      clear HX
      have hR := q.R
      have hB := q.B
      have hlt := hR.lt (by simp)
      have q0 := q.k0
      have y0 := (q.Y 0 _ rfl).1
      have y1 := (q.Y 1 _ rfl).1
      have y2 := (q.Y 2 _ rfl).1
      have y3 := (q.Y 3 _ rfl).1
      have y4 := (q.Y 4 _ rfl).1
      have hR' := (((((hR.put (i := 0) rfl (.slice A1 f.length c1)).put (i := 1) rfl (.slice A2 n.length c2)).put (i := 2) rfl (.slice A3 s.length c3)).put (i := 3) rfl (.slice A4 (s.foldl addM r).length c4)).put (i := 4) rfl (.slice A5 h.length c5))
      have hF : Fr ((w.heap.size + 1)) ((w.heap.size + 1) + 1) wr (((((wr.setCell ⟨(w.heap.size + 1), 0, none⟩ (.slice A1 f.length c1)).setCell ⟨(w.heap.size + 1), 1, none⟩ (.slice A2 n.length c2)).setCell ⟨(w.heap.size + 1), 2, none⟩ (.slice A3 s.length c3)).setCell ⟨(w.heap.size + 1), 3, none⟩ (.slice A4 (s.foldl addM r).length c4)).setCell ⟨(w.heap.size + 1), 4, none⟩ (.slice A5 h.length c5)) := ((((((Fr.refl _ _ _).setCell ⟨by simp, by simp⟩ _).setCell ⟨by simp, by simp⟩ _).setCell ⟨by simp, by simp⟩ _).setCell ⟨by simp, by simp⟩ _).setCell ⟨by simp, by simp⟩ _)
      have hB' := hB.trans (hF.below (B := w.heap.size) (by omega) (by have := hB.size; omega))
      have k0 := (hR 0 _ rfl).1
      have k1 := (hR 1 _ rfl).1
      have k2 := (hR 2 _ rfl).1
      have k3 := (hR 3 _ rfl).1
      have k4 := (hR 4 _ rfl).1
      have f0 := (hR 0 _ rfl).2
      have f1 := (hR 1 _ rfl).2
      have f2 := (hR 2 _ rfl).2
      have f3 := (hR 3 _ rfl).2
      have f4 := (hR 4 _ rfl).2
      have x0 := (hR' 0 _ rfl).1
      have x1 := (hR' 1 _ rfl).1
      have x2 := (hR' 2 _ rfl).1
      have x3 := (hR' 3 _ rfl).1
      have x4 := (hR' 4 _ rfl).1
      go_wp2
      refine bodyPost_ret (by simp [results, Tryz.results32, go_sem, x0, x1, x2, x3, x4]; try rfl) rfl ?_
      exact ⟨A1, c1, A2, c2, A3, c3, A4, c4, A5, c5, rfl, q.done hF, ⟨q.O.o1.cap, q.O.o2.cap, q.O.o3.cap⟩, hB'⟩
set_option maxRecDepth 100000 in
set_option maxHeartbeats 8000000 in
theorem RunStates_implC (Af : Option Addr) (cf : Nat) (f : List App) (An : Option Addr) (cn : Nat) (n : List App) (As : Option Addr) (cs : Nat) (s : List Msg) (Ar : Option Addr) (cr : Nat) (r : List Msg) (Ah : Option Addr) (ch : Nat) (h : List Msg) (p : ByteArray) (w : World) (hE : EA w Af cf f An cn n As cs s Ar cr r Ah ch h) (hsp : p.size ≤ 1048576) (hT : Said w) :
    Calls Tryz.prog 53 #[.agg #[.slice Af f.length cf, .slice An n.length cn, .slice As s.length cs, .slice Ar r.length cr, .slice Ah h.length ch], .string p] w (RENC w (rstT f n s r h p)) := by
  generalize hQ : rstT f n s r h p = t
  replace hQ := Lib.hid hQ
  have e1 : (w.alloc (.cells #[.slice Af f.length cf, .slice An n.length cn, .slice As s.length cs, .slice Ar r.length cr, .slice Ah h.length ch] 52)).heap.size = w.heap.size + 1 := by simp
  have hB : Below w.heap.size w ((w.alloc (.cells #[.slice Af f.length cf, .slice An n.length cn, .slice As s.length cs, .slice Ar r.length cr, .slice Ah h.length ch] 52)).alloc (.cells #[.slice none 0 0, .slice none 0 0, .slice none 0 0, .slice none 0 0, .slice none 0 0] 52)) := by go_grown
  have hX : BN w.heap.size [.slice Af f.length cf, .slice An n.length cn, .slice As s.length cs, .slice Ar r.length cr, .slice Ah h.length ch] ((w.alloc (.cells #[.slice Af f.length cf, .slice An n.length cn, .slice As s.length cs, .slice Ar r.length cr, .slice Ah h.length ch] 52)).alloc (.cells #[.slice none 0 0, .slice none 0 0, .slice none 0 0, .slice none 0 0, .slice none 0 0] 52)) := (BN.new w #[.slice Af f.length cf, .slice An n.length cn, .slice As s.length cs, .slice Ar r.length cr, .slice Ah h.length ch] 52 _ rfl).alloc (by simp) (.cells #[.slice none 0 0, .slice none 0 0, .slice none 0 0, .slice none 0 0, .slice none 0 0] 52)
  have hR : BN (w.heap.size + 1) [.slice none 0 0, .slice none 0 0, .slice none 0 0, .slice none 0 0, .slice none 0 0] ((w.alloc (.cells #[.slice Af f.length cf, .slice An n.length cn, .slice As s.length cs, .slice Ar r.length cr, .slice Ah h.length ch] 52)).alloc (.cells #[.slice none 0 0, .slice none 0 0, .slice none 0 0, .slice none 0 0, .slice none 0 0] 52)) := BN.new (w.alloc (.cells #[.slice Af f.length cf, .slice An n.length cn, .slice As s.length cs, .slice Ar r.length cr, .slice Ah h.length ch] 52)) #[.slice none 0 0, .slice none 0 0, .slice none 0 0, .slice none 0 0, .slice none 0 0] 52 (w.heap.size + 1) e1.symm
  have hE0 := hE
  replace hE := hE.below hB
  replace hT := hT.below hB
  have b0 := (hX 0 _ rfl).1
  have b1 := (hX 1 _ rfl).1
  have b2 := (hX 2 _ rfl).1
  have b3 := (hX 3 _ rfl).1
  have b4 := (hX 4 _ rfl).1
  go_enter Tryz.func53, Tryz.ntmps53
  go_wp2_with fail
  refine (areEnds_any Af cf f An cn n As cs s Ar cr r Ah ch h _ w.heap.size hX hE.lf hE.mf hE.Sf hE.ln hE.mn hE.Sn hE.ls hE.ms hE.Ss hE.ks hE.lr hE.mr hE.Sr hE.kr hE.lh hE.mh hE.Sh hE.kh hT).mono ?_
  rintro e w1 ⟨rfl, hb⟩
  replace hX := hX.below (by simp) hb
  replace hR := hR.below (by simp) hb
  replace hE := hE.below hb
  replace hT := hT.below hb
  replace hB := Below.on' hB hb
  clear b0 b1 b2 b3 b4 hb
  have b0 := (hX 0 _ rfl).1
  have b1 := (hX 1 _ rfl).1
  have b2 := (hX 2 _ rfl).1
  have b3 := (hX 3 _ rfl).1
  have b4 := (hX 4 _ rfl).1
  have hw1 : w.heap.size + 2 ≤ w1.heap.size := hR.lt (by simp)
  by_cases g : endsB f n s r h = true
  rotate_left
  · have g : endsB f n s r h = false := by simpa using g
    obtain rfl : enNo = t := (rstT_no1 g).symm.trans hQ.out
    rw [g]
    have hR' := (((((hR.put (i := 0) rfl (.slice none 0 0)).put (i := 1) rfl (.slice none 0 0)).put (i := 2) rfl (.slice none 0 0)).put (i := 3) rfl (.slice none 0 0)).put (i := 4) rfl (.slice none 0 0))
    have hF : Fr ((w.heap.size + 1)) ((w.heap.size + 1) + 1) w1 (((((w1.setCell ⟨(w.heap.size + 1), 0, none⟩ (.slice none 0 0)).setCell ⟨(w.heap.size + 1), 1, none⟩ (.slice none 0 0)).setCell ⟨(w.heap.size + 1), 2, none⟩ (.slice none 0 0)).setCell ⟨(w.heap.size + 1), 3, none⟩ (.slice none 0 0)).setCell ⟨(w.heap.size + 1), 4, none⟩ (.slice none 0 0)) := ((((((Fr.refl _ _ _).setCell ⟨by simp, by simp⟩ _).setCell ⟨by simp, by simp⟩ _).setCell ⟨by simp, by simp⟩ _).setCell ⟨by simp, by simp⟩ _).setCell ⟨by simp, by simp⟩ _)
    have hB' := hB.trans (hF.below (B := w.heap.size) (by omega) (by have := hB.size; omega))
    have k0 := (hR 0 _ rfl).1
    have k1 := (hR 1 _ rfl).1
    have k2 := (hR 2 _ rfl).1
    have k3 := (hR 3 _ rfl).1
    have k4 := (hR 4 _ rfl).1
    have f0 := (hR 0 _ rfl).2
    have f1 := (hR 1 _ rfl).2
    have f2 := (hR 2 _ rfl).2
    have f3 := (hR 3 _ rfl).2
    have f4 := (hR 4 _ rfl).2
    have x0 := (hR' 0 _ rfl).1
    have x1 := (hR' 1 _ rfl).1
    have x2 := (hR' 2 _ rfl).1
    have x3 := (hR' 3 _ rfl).1
    have x4 := (hR' 4 _ rfl).1
    go_wp2
    refine bodyPost_ret (by simp [results, Tryz.results53, go_sem, x0, x1, x2, x3, x4]; try rfl) rfl ?_
    exact ⟨none, 0, none, 0, none, 0, none, 0, none, 0, rfl, IntE.nil_ hB'.size, cap0, hB'⟩
  rw [g]
  by_cases g2 : p.size ≤ 40
  rotate_left
  · have g2' : (40 : Int) < p.size := by omega
    obtain rfl : enNo = t := (rstT_no2 g2).symm.trans hQ.out
    have hR' := (((((hR.put (i := 0) rfl (.slice none 0 0)).put (i := 1) rfl (.slice none 0 0)).put (i := 2) rfl (.slice none 0 0)).put (i := 3) rfl (.slice none 0 0)).put (i := 4) rfl (.slice none 0 0))
    have hF : Fr ((w.heap.size + 1)) ((w.heap.size + 1) + 1) w1 (((((w1.setCell ⟨(w.heap.size + 1), 0, none⟩ (.slice none 0 0)).setCell ⟨(w.heap.size + 1), 1, none⟩ (.slice none 0 0)).setCell ⟨(w.heap.size + 1), 2, none⟩ (.slice none 0 0)).setCell ⟨(w.heap.size + 1), 3, none⟩ (.slice none 0 0)).setCell ⟨(w.heap.size + 1), 4, none⟩ (.slice none 0 0)) := ((((((Fr.refl _ _ _).setCell ⟨by simp, by simp⟩ _).setCell ⟨by simp, by simp⟩ _).setCell ⟨by simp, by simp⟩ _).setCell ⟨by simp, by simp⟩ _).setCell ⟨by simp, by simp⟩ _)
    have hB' := hB.trans (hF.below (B := w.heap.size) (by omega) (by have := hB.size; omega))
    have k0 := (hR 0 _ rfl).1
    have k1 := (hR 1 _ rfl).1
    have k2 := (hR 2 _ rfl).1
    have k3 := (hR 3 _ rfl).1
    have k4 := (hR 4 _ rfl).1
    have f0 := (hR 0 _ rfl).2
    have f1 := (hR 1 _ rfl).2
    have f2 := (hR 2 _ rfl).2
    have f3 := (hR 3 _ rfl).2
    have f4 := (hR 4 _ rfl).2
    have x0 := (hR' 0 _ rfl).1
    have x1 := (hR' 1 _ rfl).1
    have x2 := (hR' 2 _ rfl).1
    have x3 := (hR' 3 _ rfl).1
    have x4 := (hR' 4 _ rfl).1
    go_wp2
    refine bodyPost_ret (by simp [results, Tryz.results53, go_sem, x0, x1, x2, x3, x4]; try rfl) rfl ?_
    exact ⟨none, 0, none, 0, none, 0, none, 0, none, 0, rfl, IntE.nil_ hB'.size, cap0, hB'⟩
  have g2' : ¬ (40 : Int) < p.size := by omega
  have p3 := (ends_parts g).2.2.1
  have G0 := ChanG.of p3
  obtain ⟨n1, n2, n3⟩ := chan_len p3
  go_wp2_with fail
  refine (copyEnds_any w.heap.size Af cf f An cn n As cs s Ar cr r Ah ch h _ hX hE.lf hE.Sf hE.ln hE.Sn hE.ls hE.Ss hE.lr hE.Sr hE.lh hE.Sh).mono ?_
  rintro e w3 ⟨A1, c1, A2, c2, A3, c3, A4, c4, A5, c5, rfl, hC, hb⟩
  have hls := hE.ls
  replace hR := hR.below (by simp) hb
  replace hB := Below.on' hB hb
  obtain ⟨m1, m2, q⟩ := RI.start (c1 := c1) (c2 := c2) hC hR hB (show w.heap.size + 2 ≤ w1.heap.size from hw1)
  clear b0 b1 b2 b3 b4 hb hC hR hX hE hT hB hE0
  obtain ⟨cap, V, hconv, hP, hbV, hPlt⟩ := conv_bytes (w3.alloc (.cells #[.slice A1 f.length c1, .slice A2 n.length c2, .slice A3 s.length c3, .slice A4 r.length c4, .slice A5 h.length c5] 52)) p
  have e2 : (w3.alloc (.cells #[.slice A1 f.length c1, .slice A2 n.length c2, .slice A3 s.length c3, .slice A4 r.length c4, .slice A5 h.length c5] 52)).heap.size = w3.heap.size + 1 := by simp
  rw [e2] at hconv hP hPlt
  have hP4 : Dis A4 (some ⟨w3.heap.size + 1, 0, none⟩) := fun a a2 e1 e2' q' => by injection e2' with e2'; subst e2'; have := q.O.o2.lt a e1; rw [e2] at this; simp only at q'; omega
  replace q := q.below hbV
  go_wp2_with fail
  go_loopw [22] (fun i wr => ∃ (k : Nat) (r' : List Msg) (A4 : Option Addr) (c4 : Nat), k ≤ p.size ∧ i = .int .i64 k ∧ Hid (rsN s p (p.size - k) k r' = rsN s p p.size 0 r) ∧ r'.length ≤ 30 + k ∧ RI w w1.heap.size m1 m2 w3.heap.size f n A1 c1 A2 c2 A3 c3 s A4 c4 r' A5 c5 h wr ∧ Dis A4 (some ⟨w3.heap.size + 1, 0, none⟩) ∧ w3.heap.size + 1 < wr.heap.size ∧ (∀ q (h : q < p.size), wr.cell? ⟨w3.heap.size + 1, q, none⟩ = some (.int .u8 (p[q].toNat : Int)))) (fun i _ => p.size - (intOf i).toNat)
  case atStart => exact ⟨0, r, A4, c4, Nat.zero_le _, rfl, Lib.hid rfl, by omega, q, hP4, hPlt, hP⟩
  case round =>
    clear q G0 hP hconv hbV e2 hP4 hPlt
    obtain ⟨k, r', A4, c4, hk, rfl, HX, hlr', q, hP4, hPlt, hP⟩ := hrel
    have y0 := (q.Y 0 _ rfl).1
    have y1 := (q.Y 1 _ rfl).1
    have y2 := (q.Y 2 _ rfl).1
    have y3 := (q.Y 3 _ rfl).1
    have y4 := (q.Y 4 _ rfl).1
    by_cases hlt : k < p.size
    · have c0 := hP k hlt
      rcases (by omega : (97 ≤ p[k].toNat ∧ p[k].toNat ≤ 122) ∨ p[k].toNat < 97 ∨ 122 < p[k].toNat) with hc | hc | hc
      · have l0 : 97 ≤ (p[k].toNat : Int) := by omega
        have l1 : (p[k].toNat : Int) ≤ 122 := by omega
        obtain ⟨j, ej⟩ : ∃ j : Nat, p[k].toNat = 97 + j := ⟨p[k].toNat - 97, by omega⟩
        have ej' : (p[k].toNat : Int) - 97 = (j : Nat) := by omega
        have hw8 : IntKind.u8.wrap (j : Int) = j := IntWalk.u8_in _ (by omega)
        have hw6 : IntKind.i64.wrap (j : Int) = j := IntWalk.i64_in _ (by omega)
        by_cases hj : j < s.length
        · have hj' : (j : Int) < s.length := by omega
          obtain ⟨m, hm, _⟩ := get_lt hj
          have hq := rs_a (s := s) (r := r') (c := p[k].toNat) (by omega) ej hm
          have HX' : Hid (rsN s p (p.size - (k + 1)) (k + 1) (addM r' m) = rsN s p p.size 0 r) := Lib.hid (by rw [← HX.out, rsN_step hlt, hq])
          have hal := addM_len r' m
          clear hq HX hQ ej hc g
          go_wp2_with fail
          refine (q.deliver hls (by omega) j m hm).mono ?_
          rintro e V ⟨A', c', rfl, q', hbp, hdd, hsz⟩
          have hPl : w3.heap.size + 1 < wr.heap.size := hPlt
          have hPN := hdd _ hP4 (fun a ha => by injection ha with ha; subst ha; exact hPl)
          have hP5 := fun (q0 : Nat) (hq : q0 < p.size) => (World.cell?_of_block (a := ⟨w3.heap.size + 1, q0, none⟩) (hbp (w3.heap.size + 1) hPl (by omega) (fun a ha => hP4 a _ ha rfl))).trans (hP q0 hq)
          clear q y0 y1 y2 y3 y4 hbp hP c0
          go_wp2
          go_roundw
          case rel => exact ⟨k + 1, addM r' m, A', c', by omega, by go_num, HX', by omega, q', hPN, Nat.lt_of_lt_of_le hPl hsz, hP5⟩
          case measure => simp [intOf]; omega
        · have hj' : ¬ (j : Int) < s.length := by omega
          have hq := rs_a0 (s := s) (r := r') (c := p[k].toNat) (by omega) ej (by omega)
          have HX' : Hid (rsN s p (p.size - (k + 1)) (k + 1) r' = rsN s p p.size 0 r) := Lib.hid (by rw [← HX.out, rsN_step hlt, hq])
          clear hq HX hQ ej hc g
          go_wp2
          go_roundw
          case rel => exact ⟨k + 1, r', A4, c4, by omega, by go_num, HX', by omega, q, hP4, hPlt, hP⟩
          case measure => simp [intOf]; omega
      · have hq := rs_no (s := s) (r := r') (c := p[k].toNat) (by omega)
        obtain rfl : enNo = t := by rw [← hQ.out, rstT_yes g g2, ← HX.out, rsN_step hlt, hq]
        have l0 : ¬ 97 ≤ (p[k].toNat : Int) := by omega
        clear hQ HX hq g
        have hR := q.R
        have hB := q.B
        have hlR := hR.lt (by simp)
        have hR' := (((((hR.put (i := 0) rfl (.slice none 0 0)).put (i := 1) rfl (.slice none 0 0)).put (i := 2) rfl (.slice none 0 0)).put (i := 3) rfl (.slice none 0 0)).put (i := 4) rfl (.slice none 0 0))
        have hF : Fr ((w.heap.size + 1)) ((w.heap.size + 1) + 1) wr (((((wr.setCell ⟨(w.heap.size + 1), 0, none⟩ (.slice none 0 0)).setCell ⟨(w.heap.size + 1), 1, none⟩ (.slice none 0 0)).setCell ⟨(w.heap.size + 1), 2, none⟩ (.slice none 0 0)).setCell ⟨(w.heap.size + 1), 3, none⟩ (.slice none 0 0)).setCell ⟨(w.heap.size + 1), 4, none⟩ (.slice none 0 0)) := ((((((Fr.refl _ _ _).setCell ⟨by simp, by simp⟩ _).setCell ⟨by simp, by simp⟩ _).setCell ⟨by simp, by simp⟩ _).setCell ⟨by simp, by simp⟩ _).setCell ⟨by simp, by simp⟩ _)
        have hB' := hB.trans (hF.below (B := w.heap.size) (by omega) (by have := hB.size; omega))
        have k0 := (hR 0 _ rfl).1
        have k1 := (hR 1 _ rfl).1
        have k2 := (hR 2 _ rfl).1
        have k3 := (hR 3 _ rfl).1
        have k4 := (hR 4 _ rfl).1
        have f0 := (hR 0 _ rfl).2
        have f1 := (hR 1 _ rfl).2
        have f2 := (hR 2 _ rfl).2
        have f3 := (hR 3 _ rfl).2
        have f4 := (hR 4 _ rfl).2
        have x0 := (hR' 0 _ rfl).1
        have x1 := (hR' 1 _ rfl).1
        have x2 := (hR' 2 _ rfl).1
        have x3 := (hR' 3 _ rfl).1
        have x4 := (hR' 4 _ rfl).1
        go_wp2
        refine bodyPost_ret (by simp [results, Tryz.results53, go_sem, x0, x1, x2, x3, x4]; try rfl) rfl ?_
        exact ⟨none, 0, none, 0, none, 0, none, 0, none, 0, rfl, IntE.nil_ hB'.size, cap0, hB'⟩
      · have hq := rs_no (s := s) (r := r') (c := p[k].toNat) (by omega)
        obtain rfl : enNo = t := by rw [← hQ.out, rstT_yes g g2, ← HX.out, rsN_step hlt, hq]
        have l0 : 97 ≤ (p[k].toNat : Int) := by omega
        have l1 : ¬ (p[k].toNat : Int) ≤ 122 := by omega
        clear hQ HX hq g
        have hR := q.R
        have hB := q.B
        have hlR := hR.lt (by simp)
        have hR' := (((((hR.put (i := 0) rfl (.slice none 0 0)).put (i := 1) rfl (.slice none 0 0)).put (i := 2) rfl (.slice none 0 0)).put (i := 3) rfl (.slice none 0 0)).put (i := 4) rfl (.slice none 0 0))
        have hF : Fr ((w.heap.size + 1)) ((w.heap.size + 1) + 1) wr (((((wr.setCell ⟨(w.heap.size + 1), 0, none⟩ (.slice none 0 0)).setCell ⟨(w.heap.size + 1), 1, none⟩ (.slice none 0 0)).setCell ⟨(w.heap.size + 1), 2, none⟩ (.slice none 0 0)).setCell ⟨(w.heap.size + 1), 3, none⟩ (.slice none 0 0)).setCell ⟨(w.heap.size + 1), 4, none⟩ (.slice none 0 0)) := ((((((Fr.refl _ _ _).setCell ⟨by simp, by simp⟩ _).setCell ⟨by simp, by simp⟩ _).setCell ⟨by simp, by simp⟩ _).setCell ⟨by simp, by simp⟩ _).setCell ⟨by simp, by simp⟩ _)
        have hB' := hB.trans (hF.below (B := w.heap.size) (by omega) (by have := hB.size; omega))
        have k0 := (hR 0 _ rfl).1
        have k1 := (hR 1 _ rfl).1
        have k2 := (hR 2 _ rfl).1
        have k3 := (hR 3 _ rfl).1
        have k4 := (hR 4 _ rfl).1
        have f0 := (hR 0 _ rfl).2
        have f1 := (hR 1 _ rfl).2
        have f2 := (hR 2 _ rfl).2
        have f3 := (hR 3 _ rfl).2
        have f4 := (hR 4 _ rfl).2
        have x0 := (hR' 0 _ rfl).1
        have x1 := (hR' 1 _ rfl).1
        have x2 := (hR' 2 _ rfl).1
        have x3 := (hR' 3 _ rfl).1
        have x4 := (hR' 4 _ rfl).1
        go_wp2
        refine bodyPost_ret (by simp [results, Tryz.results53, go_sem, x0, x1, x2, x3, x4]; try rfl) rfl ?_
        exact ⟨none, 0, none, 0, none, 0, none, 0, none, 0, rfl, IntE.nil_ hB'.size, cap0, hB'⟩
    · obtain rfl : k = p.size := by omega
      obtain rfl : ((f, n, s, r', h), true) = t := by rw [← hQ.out, rstT_yes g g2, ← HX.out, Nat.sub_self]; rfl
      clear hQ HX g y0 y1 y2 y3 y4
      have hR := q.R
      have hB := q.B
      have hlt := hR.lt (by simp)
      have q0 := q.k0
      have y0 := (q.Y 0 _ rfl).1
      have y1 := (q.Y 1 _ rfl).1
      have y2 := (q.Y 2 _ rfl).1
      have y3 := (q.Y 3 _ rfl).1
      have y4 := (q.Y 4 _ rfl).1
      have hR' := (((((hR.put (i := 0) rfl (.slice A1 f.length c1)).put (i := 1) rfl (.slice A2 n.length c2)).put (i := 2) rfl (.slice A3 s.length c3)).put (i := 3) rfl (.slice A4 r'.length c4)).put (i := 4) rfl (.slice A5 h.length c5))
      have hF : Fr ((w.heap.size + 1)) ((w.heap.size + 1) + 1) wr (((((wr.setCell ⟨(w.heap.size + 1), 0, none⟩ (.slice A1 f.length c1)).setCell ⟨(w.heap.size + 1), 1, none⟩ (.slice A2 n.length c2)).setCell ⟨(w.heap.size + 1), 2, none⟩ (.slice A3 s.length c3)).setCell ⟨(w.heap.size + 1), 3, none⟩ (.slice A4 r'.length c4)).setCell ⟨(w.heap.size + 1), 4, none⟩ (.slice A5 h.length c5)) := ((((((Fr.refl _ _ _).setCell ⟨by simp, by simp⟩ _).setCell ⟨by simp, by simp⟩ _).setCell ⟨by simp, by simp⟩ _).setCell ⟨by simp, by simp⟩ _).setCell ⟨by simp, by simp⟩ _)
      have hB' := hB.trans (hF.below (B := w.heap.size) (by omega) (by have := hB.size; omega))
      have k0 := (hR 0 _ rfl).1
      have k1 := (hR 1 _ rfl).1
      have k2 := (hR 2 _ rfl).1
      have k3 := (hR 3 _ rfl).1
      have k4 := (hR 4 _ rfl).1
      have f0 := (hR 0 _ rfl).2
      have f1 := (hR 1 _ rfl).2
      have f2 := (hR 2 _ rfl).2
      have f3 := (hR 3 _ rfl).2
      have f4 := (hR 4 _ rfl).2
      have x0 := (hR' 0 _ rfl).1
      have x1 := (hR' 1 _ rfl).1
      have x2 := (hR' 2 _ rfl).1
      have x3 := (hR' 3 _ rfl).1
      have x4 := (hR' 4 _ rfl).1
      go_wp2
      refine bodyPost_ret (by simp [results, Tryz.results53, go_sem, x0, x1, x2, x3, x4]; try rfl) rfl ?_
      exact ⟨A1, c1, A2, c2, A3, c3, A4, c4, A5, c5, rfl, q.done hF, ⟨q.O.o1.cap, q.O.o2.cap, q.O.o3.cap⟩, hB'⟩
end Go.Proofs.YtjmjilkpckbpeaaGreatDoor

/- Both ends, as the reference tests them. Conditions: at most 2^20 in each list, texts of at most 2^20. -/
import Derived.Test.YtianabfehonliaaDoorEndA
import Derived.Test.YtianabfehonliaaDoorEnds
import Derived.Test.YtianabfehonliaaDoorChanI
namespace Go.Proofs.YtianabfehonliaaDoor
open Go.RowKit

theorem sentS_len (s : List Msg) (nm : ByteArray) : (sentS s nm).length ≤ s.length := by
  unfold sentS
  rw [List.length_map]
  exact List.length_filter_le _ _
theorem chainF_append : ∀ (a b : List Int) (st : Int), chainF st (a ++ b) = (chainF st a).bind fun y => chainF y b
  | [], _, _ => rfl
  | x :: a, b, st => by
    rw [List.cons_append, chainF, chainF]
    by_cases h : mayB st x = true
    · rw [if_pos h, if_pos h]; exact chainF_append a b x
    · rw [if_neg h, if_neg h]; rfl
theorem chain_step {L : List Int} {k : Nat} {x st st0 : Int} (hx : L[k]? = some x) (hc : chainF st0 (L.take k) = some st) (hm : mayB st x = true) : chainF st0 (L.take (k + 1)) = some x := by
  rw [take_snoc hx, chainF_append, hc]
  show (if mayB st x = true then some x else none) = some x
  rw [if_pos hm]
theorem chain_no {L : List Int} {k : Nat} {x st st0 : Int} (hx : L[k]? = some x) (hc : chainF st0 (L.take k) = some st) (hm : mayB st x = false) : chainF st0 L = none := by
  have h : chainF st0 (L.take (k + 1)) = none := by
    rw [take_snoc hx, chainF_append, hc]
    show (if mayB st x = true then some x else none) = none
    rw [if_neg (by rw [hm]; exact Bool.false_ne_true)]
  rw [← List.take_append_drop (k + 1) L, chainF_append, h]; rfl
theorem endAt_eq {f n : List App} {s : List Msg} {i : Nat} {a b : App} (ha : f[i]? = some a) (hb : n[i]? = some b) : endAt f n s i = match chainF a.st (sentS s a.nm) with | some x => App.eqB (withSt a x) b | none => false := by
  simp only [endAt, ha, hb]; rfl
theorem App.neq (x y : App) (b : Bool) (h : App.eqB x y = !b) (w : World) : (binOp .neq 75 (.agg #[.string x.nm, .int .i64 x.kd, .int .i64 x.nd, .int .i64 x.cw, .int .i64 x.st]) (.agg #[.string y.nm, .int .i64 y.kd, .int .i64 y.nd, .int .i64 y.cw, .int .i64 y.st])).run Tryd.prog w = .ok (.bool b) w := by
  have e := App.eql x y w
  rw [run_eql_struct] at e
  rw [run_neq_struct]
  generalize (Op.equalIn 10000 75 (.agg #[.string x.nm, .int .i64 x.kd, .int .i64 x.nd, .int .i64 x.cw, .int .i64 x.st]) (.agg #[.string y.nm, .int .i64 y.kd, .int .i64 y.nd, .int .i64 y.cw, .int .i64 y.st])).run Tryd.prog w = R at e
  cases R with
  | ok v w' =>
    simp only [Result.andThen, Result.ok.injEq, Value.bool.injEq] at e ⊢
    obtain ⟨rfl, rfl⟩ := e
    simp [h]
  | _ => simp [Result.andThen] at e
theorem cells5.off {b : Nat} {v0 v1 v2 v3 v4 : Value} {X : World} (a : cells5 b v0 v1 v2 v3 v4 X) {p : Addr} (hp : p.block ≠ b) (v : Value) : cells5 b v0 v1 v2 v3 v4 (X.setCell p v) := ⟨unset a.1 hp, unset a.2.1 hp, unset a.2.2.1 hp, unset a.2.2.2.1 hp, unset a.2.2.2.2 hp⟩
set_option maxRecDepth 100000 in
set_option maxHeartbeats 8000000 in
theorem stGood_any (Af : Option Addr) (cf : Nat) (f : List App) (An : Option Addr) (cn : Nat) (n : List App) (As : Option Addr) (cs : Nat) (s : List Msg) (Ar : Option Addr) (cr : Nat) (r : List Msg) (Ah : Option Addr) (ch : Nat) (h : List Msg) (w : World) (hlf : f.length ≤ 1048576) (hmf : ∀ y ∈ f, y.nm.size ≤ 1048576) (hSf : Apps w 0 w.heap.size Af f) (hln : n.length ≤ 1048576) (hmn : ∀ y ∈ n, y.nm.size ≤ 1048576) (hSn : Apps w 0 w.heap.size An n) (hls : s.length ≤ 1048576) (hms : ∀ y ∈ s, y.f.size ≤ 1048576 ∧ y.b.size ≤ 1048576) (hSs : Msgs w 0 w.heap.size As s) (hcs : s.length ≤ cs) (hlr : r.length ≤ 1048576) (hmr : ∀ y ∈ r, y.f.size ≤ 1048576 ∧ y.b.size ≤ 1048576) (hSr : Msgs w 0 w.heap.size Ar r) (hcr : r.length ≤ cr) (hlh : h.length ≤ 1048576) (hmh : ∀ y ∈ h, y.f.size ≤ 1048576 ∧ y.b.size ≤ 1048576) (hSh : Msgs w 0 w.heap.size Ah h) (hch : h.length ≤ ch) :
    Calls Tryd.prog 23 #[.agg #[.slice Af f.length cf, .slice An n.length cn, .slice As s.length cs, .slice Ar r.length cr, .slice Ah h.length ch]] w (RV w (.bool (endsB f n s r h))) := by
  have hX := cells5.new w (.slice Af f.length cf) (.slice An n.length cn) (.slice As s.length cs) (.slice Ar r.length cr) (.slice Ah h.length ch) 41 _ rfl
  have hB : Below w.heap.size w (w.alloc (.cells #[.slice Af f.length cf, .slice An n.length cn, .slice As s.length cs, .slice Ar r.length cr, .slice Ah h.length ch] 41)) := by go_grown
  obtain ⟨b0, b1, b2, b3, b4⟩ := id hX
  go_enter Tryd.func23, Tryd.ntmps23
  go_wp2_with fail
  refine (apFleet_any Af cf f _ hlf hmf (hSf.below hB).all).mono ?_
  rintro e w1 ⟨rfl, hb⟩
  replace hX := hX.below hb
  replace hB := Below.on' hB hb
  clear b0 b1 b2 b3 b4 hb
  obtain ⟨b0, b1, b2, b3, b4⟩ := id hX
  by_cases g1 : fleetB f = true
  rotate_left
  · have g1 : fleetB f = false := by simpa using g1
    have HF : Hid (endsB f n s r h = false) := Lib.hid (by rw [endsB, g1]; rfl)
    rw [g1]
    go_wp2
    go_ret
    exact RV.mk (by rw [HF.out]; rfl) hB
  rw [g1]
  go_wp2_with fail
  refine (apFleet_any An cn n _ hln hmn (hSn.below hB).all).mono ?_
  rintro e w2 ⟨rfl, hb⟩
  replace hX := hX.below hb
  replace hB := Below.on' hB hb
  clear b0 b1 b2 b3 b4 hb
  obtain ⟨b0, b1, b2, b3, b4⟩ := id hX
  by_cases g2 : fleetB n = true
  rotate_left
  · have g2 : fleetB n = false := by simpa using g2
    have HF : Hid (endsB f n s r h = false) := Lib.hid (by rw [endsB, g1, g2]; rfl)
    rw [g2]
    go_wp2
    go_ret
    exact RV.mk (by rw [HF.out]; rfl) hB
  rw [g2]
  go_wp2_with fail
  refine (raGood_any As cs s Ar cr r Ah ch h _ hls hms (hSs.below hB).all hcs hlr hmr (hSr.below hB).all hcr hlh hmh (hSh.below hB).all hch).mono ?_
  rintro e w3 ⟨rfl, hb⟩
  replace hX := hX.below hb
  replace hB := Below.on' hB hb
  clear b0 b1 b2 b3 b4 hb
  obtain ⟨b0, b1, b2, b3, b4⟩ := id hX
  by_cases g3 : chanB s r h = true
  rotate_left
  · have g3 : chanB s r h = false := by simpa using g3
    have HF : Hid (endsB f n s r h = false) := Lib.hid (by rw [endsB, g1, g2, g3]; rfl)
    rw [g3]
    go_wp2
    go_ret
    exact RV.mk (by rw [HF.out]; rfl) hB
  rw [g3]
  by_cases g4 : f.length = n.length
  rotate_left
  · have g5 : ((f.length : Int) == (n.length : Int)) = false := by rw [beq_eq_false_iff_ne]; omega
    have HF : Hid (endsB f n s r h = false) := Lib.hid (by rw [endsB, g1, g2, g3, decide_eq_false g4]; rfl)
    clear g1 g2 g3
    go_wp2
    go_ret
    exact RV.mk (by rw [HF.out]; rfl) hB
  have H4 : Hid (endsB f n s r h = (s.all (knownB f) && (List.range f.length).all (endAt f n s))) := Lib.hid (by rw [endsB, g1, g2, g3, decide_eq_true g4]; simp)
  have hnl : n.length = f.length := g4.symm
  rw [hnl] at hX
  clear g1 g2 g3 g4 b0 b1 b2 b3 b4
  obtain ⟨b0, b1, b2, b3, b4⟩ := id hX
  go_wp2_with fail
  go_loopw [40] (fun i wr => ∃ k : Nat, k ≤ s.length ∧ i = .int .i64 k ∧ Hid ((s.take k).all (knownB f) = true) ∧ cells5 w.heap.size (.slice Af f.length cf) (.slice An f.length cn) (.slice As s.length cs) (.slice Ar r.length cr) (.slice Ah h.length ch) wr ∧ Below w.heap.size w wr) (fun i _ => s.length - (intOf i).toNat)
  case atStart => exact ⟨0, Nat.zero_le _, rfl, Lib.hid rfl, hX, hB⟩
  case round =>
    clear hX hB b0 b1 b2 b3 b4
    obtain ⟨k, hk, rfl, HK, hX, hB⟩ := hrel
    have hz := hB.size
    have hx0 := hX.lt
    obtain ⟨b0, b1, b2, b3, b4⟩ := id hX
    by_cases hlt : k < s.length
    · obtain ⟨⟨xf, xn, xb⟩, hx, hxM⟩ := get_lt hlt
      have HM := Lib.hid hxM
      have HT := Lib.hid (take_snoc hx)
      obtain ⟨b, off, rfl, _, _, _, hf⟩ := (hSs.below hB).at_ hx
      have c0 : wr.cell? ⟨b, off + k * 3, none⟩ = some (.string xf) := (hf 0 _ rfl).1
      have c1 : wr.cell? ⟨b, off + k * 3 + 1, none⟩ = some (.int .i64 xn) := (hf 1 _ rfl).1
      have c2 : wr.cell? ⟨b, off + k * 3 + 2, none⟩ = some (.string xb) := (hf 2 _ rfl).1
      have hBa : Below w.heap.size w (wr.alloc (.cells #[.string xf, .int .i64 xn, .string xb] 23)) := by go_grown
      have hY := B3.new wr (.string xf) (.int .i64 xn) (.string xb) 23 _ rfl
      have hXa := hX.alloc (.cells #[.string xf, .int .i64 xn, .string xb] 23)
      clear hf hxM hx
      go_wp2_with fail
      refine (apFind_any Af cf f xf _ hlf (hSf.below hBa).all).mono ?_
      rintro e w4 ⟨rfl, hb⟩
      replace hX := hXa.below hb
      replace hY := hY.below hb
      have hB4 := Below.on' hBa hb
      have HI := Lib.hid (idxG_any (fun a : App => decide (a.nm.toList = xf.toList)) f)
      generalize idxG (fun a : App => decide (a.nm.toList = xf.toList)) f 0 = I at HI
      clear b0 b1 b2 b3 b4 c0 c1 c2 hb hXa hBa
      obtain ⟨d0, d1, d2, _, _, _⟩ := id hY
      by_cases g5 : I < 0
      · have HF : Hid (endsB f n s r h = false) := Lib.hid (by
          have e1 : knownB f ⟨xf, xn, xb⟩ = false := by
            unfold knownB
            rw [← HI.out, decide_eq_false (by omega), Bool.false_and]
          have e2 : s.all (knownB f) = false := by
            rw [List.all_eq_false]
            exact ⟨_, HM.out, by rw [e1]; exact Bool.false_ne_true⟩
          rw [H4.out, e2]; rfl)
        clear HM HT HI HK
        go_wp2
        go_ret
        exact RV.mk (by rw [HF.out]; rfl) hB4
      · have g5' : 0 ≤ I := by omega
        go_wp2_with fail
        refine (stParse_any xb _).mono ?_
        rintro e w5 ⟨v, rfl, HS, hb⟩
        replace hX := hX.below hb
        have hB5 := Below.on' hB4 hb
        have HV : Hid (v = stF xb) := Lib.hid (stF_of HS.out)
        clear d0 d1 d2 hY hb HS
        by_cases g6 : v < 0
        · have HF : Hid (endsB f n s r h = false) := Lib.hid (by
            have e1 : knownB f ⟨xf, xn, xb⟩ = false := by
              unfold knownB
              rw [show decide (0 ≤ stF xb) = false from decide_eq_false (by rw [← HV.out]; omega), Bool.and_false]
            have e2 : s.all (knownB f) = false := by
              rw [List.all_eq_false]
              exact ⟨_, HM.out, by rw [e1]; exact Bool.false_ne_true⟩
            rw [H4.out, e2]; rfl)
          clear HM HT HI HK HV
          go_wp2
          go_ret
          exact RV.mk (by rw [HF.out]; rfl) hB5
        · have HK' : Hid ((s.take (k + 1)).all (knownB f) = true) := Lib.hid (by
            have e1 : knownB f ⟨xf, xn, xb⟩ = true := by
              unfold knownB
              rw [← HI.out, decide_eq_true g5', show decide (0 ≤ stF xb) = true from decide_eq_true (by rw [← HV.out]; omega)]; rfl
            rw [HT.out, List.all_append, HK.out]
            simpa using e1)
          clear HM HT HI HK HV
          go_wp2
          go_roundw
          case rel => exact ⟨k + 1, by omega, by go_num, HK', hX, hB5⟩
          case measure => simp [intOf]; omega
    · have HA : Hid (endsB f n s r h = (List.range f.length).all (endAt f n s)) := Lib.hid (by
        have := HK.out
        rw [List.take_of_length_le (by omega)] at this
        rw [H4.out, this, Bool.true_and])
      clear HK H4
      go_wp2_with fail
      go_loopw [60] (fun i wr => ∃ k : Nat, k ≤ f.length ∧ i = .int .i64 k ∧ Hid (∀ i, i < k → endAt f n s i = true) ∧ cells5 w.heap.size (.slice Af f.length cf) (.slice An f.length cn) (.slice As s.length cs) (.slice Ar r.length cr) (.slice Ah h.length ch) wr ∧ Below w.heap.size w wr) (fun i _ => f.length - (intOf i).toNat)
      case atStart => exact ⟨0, Nat.zero_le _, rfl, Lib.hid (fun i hi => absurd hi (Nat.not_lt_zero i)), hX, hB⟩
      case round =>
        clear hX hB b0 b1 b2 b3 b4 hz hlt hk hx0
        obtain ⟨k, hk, rfl, HK, hX, hB⟩ := hrel
        have hz := hB.size
        obtain ⟨b0, b1, b2, b3, b4⟩ := id hX
        by_cases hlt : k < f.length
        · obtain ⟨⟨an, ak, ad, ac, az⟩, ha, _⟩ := get_lt hlt
          obtain ⟨⟨bn, bk, bd, bc, bz⟩, hbn, _⟩ := get_lt (show k < n.length by omega)
          have HE := Lib.hid (endAt_eq (s := s) ha hbn)
          obtain ⟨p, o, rfl, _, _, _, hf⟩ := (hSf.below hB).at_ ha
          have c0 : wr.cell? ⟨p, o + k * 5, none⟩ = some (.string an) := (hf 0 _ rfl).1
          have c1 : wr.cell? ⟨p, o + k * 5 + 1, none⟩ = some (.int .i64 ak) := (hf 1 _ rfl).1
          have c2 : wr.cell? ⟨p, o + k * 5 + 2, none⟩ = some (.int .i64 ad) := (hf 2 _ rfl).1
          have c3 : wr.cell? ⟨p, o + k * 5 + 3, none⟩ = some (.int .i64 ac) := (hf 3 _ rfl).1
          have c4 : wr.cell? ⟨p, o + k * 5 + 4, none⟩ = some (.int .i64 az) := (hf 4 _ rfl).1
          clear hf
          obtain ⟨p', o', rfl, _, _, _, hf⟩ := (hSn.below hB).at_ hbn
          have c5 : wr.cell? ⟨p', o' + k * 5, none⟩ = some (.string bn) := (hf 0 _ rfl).1
          have c6 : wr.cell? ⟨p', o' + k * 5 + 1, none⟩ = some (.int .i64 bk) := (hf 1 _ rfl).1
          have c7 : wr.cell? ⟨p', o' + k * 5 + 2, none⟩ = some (.int .i64 bd) := (hf 2 _ rfl).1
          have c8 : wr.cell? ⟨p', o' + k * 5 + 3, none⟩ = some (.int .i64 bc) := (hf 3 _ rfl).1
          have c9 : wr.cell? ⟨p', o' + k * 5 + 4, none⟩ = some (.int .i64 bz) := (hf 4 _ rfl).1
          clear hf ha hbn
          have hp := World.block_lt_of_cell? _ _ c0
          have hp' := World.block_lt_of_cell? _ _ c5
          have hx0 := hX.lt
          have hBa : Below w.heap.size w ((wr.alloc (.cells #[.string an, .int .i64 ak, .int .i64 ad, .int .i64 ac, .int .i64 az] 75)).alloc (.cells #[.string bn, .int .i64 bk, .int .i64 bd, .int .i64 bc, .int .i64 bz] 75)) := by go_grown
          have hX2 := (hX.alloc (.cells #[.string an, .int .i64 ak, .int .i64 ad, .int .i64 ac, .int .i64 az] 75)).alloc (.cells #[.string bn, .int .i64 bk, .int .i64 bd, .int .i64 bc, .int .i64 bz] 75)
          have hY : BN wr.heap.size [.string an, .int .i64 ak, .int .i64 ad, .int .i64 ac, .int .i64 az] ((wr.alloc (.cells #[.string an, .int .i64 ak, .int .i64 ad, .int .i64 ac, .int .i64 az] 75)).alloc (.cells #[.string bn, .int .i64 bk, .int .i64 bd, .int .i64 bc, .int .i64 bz] 75)) := (BN.new wr #[.string an, .int .i64 ak, .int .i64 ad, .int .i64 ac, .int .i64 az] 75 _ rfl).upto (B := wr.heap.size + 1) (Nat.lt_succ_self _) ((Below.refl _ _).alloc (by simp) _)
          have hZ : BN (wr.heap.size + 1) [.string bn, .int .i64 bk, .int .i64 bd, .int .i64 bc, .int .i64 bz] ((wr.alloc (.cells #[.string an, .int .i64 ak, .int .i64 ad, .int .i64 ac, .int .i64 az] 75)).alloc (.cells #[.string bn, .int .i64 bk, .int .i64 bd, .int .i64 bc, .int .i64 bz] 75)) := BN.new _ #[.string bn, .int .i64 bk, .int .i64 bd, .int .i64 bc, .int .i64 bz] 75 _ (by simp)
          have hset : ∀ W v, Below w.heap.size w W → Below w.heap.size w (W.setCell ⟨wr.heap.size, 4, none⟩ v) := fun W v hW => by go_grown
          have hoff : ∀ W v, cells5 w.heap.size (.slice (some ⟨p, o, none⟩) f.length cf) (.slice (some ⟨p', o', none⟩) f.length cn) (.slice As s.length cs) (.slice Ar r.length cr) (.slice Ah h.length ch) W → cells5 w.heap.size (.slice (some ⟨p, o, none⟩) f.length cf) (.slice (some ⟨p', o', none⟩) f.length cn) (.slice As s.length cs) (.slice Ar r.length cr) (.slice Ah h.length ch) (W.setCell ⟨wr.heap.size, 4, none⟩ v) := fun W v hW => hW.off (by simp; omega) v
          go_wp2_with fail
          refine (stSent_any As cs s _ _ an _ hls (hSs.below hBa).all).mono ?_
          rintro e w4 ⟨AL, cL, rfl, hL, _, hb⟩
          have hLl := sentS_len s an
          generalize sentS s an = L at HE hL hLl
          have hB4 := Below.on' hBa hb
          have hX4 := hX2.below hb
          have hY4 := hY.upto (by simp; omega) hb
          have hZ4 := hZ.upto (by simp) hb
          have hw4 : wr.heap.size + 2 ≤ w4.heap.size := by have := hb.size; simp at this; omega
          clear c0 c1 c2 c3 c4 c5 c6 c7 c8 c9 hb hX2 hY hZ b0 b1 b2 b3 b4 hBa
          obtain ⟨b0, b1, b2, b3, b4⟩ := id hX4
          go_wp2_with fail
          go_loopw [8, 78] (fun v i wx => ∃ (q : Nat) (st : Int), q ≤ L.length ∧ v = .int .i64 st ∧ i = .int .i64 q ∧ Hid (chainF az (L.take q) = some st) ∧ Below w4.heap.size w4 wx) (fun _ i _ => L.length - (intOf i).toNat)
          case atStart => exact ⟨0, az, Nat.zero_le _, rfl, rfl, Lib.hid rfl, Below.refl _ _⟩
          case round =>
            obtain ⟨q, st, hq, rfl, rfl, HC, hBx⟩ := hrel
            clear b0 b1 b2 b3 b4
            have hB5 := Below.on' hB4 hBx
            by_cases hql : q < L.length
            · obtain ⟨x, hx, _⟩ := get_lt hql
              have HS := Lib.hid hx
              obtain ⟨_, _, rfl, _, _, _, d0, _⟩ := Ints.at1 (hL.below hBx) hx
              clear hx
              go_wp2_with fail
              refine (apMay_any st x _).mono ?_
              rintro e w6 ⟨rfl, hb⟩
              have hB6 := Below.on' hBx hb
              clear d0
              by_cases g7 : mayB st x = true
              · have HC' := Lib.hid (chain_step HS.out HC.out g7)
                rw [g7]
                clear HC HS
                go_wp2
                go_roundw
                case rel => exact ⟨q + 1, x, by omega, rfl, by go_num, HC', hB6⟩
                case measure => simp [intOf]; omega
              · have g7 : mayB st x = false := by simpa using g7
                have HF : Hid (endsB f n s r h = false) := Lib.hid (by rw [HA.out]; exact upto_no hlt (by rw [HE.out]; show (match chainF az L with | some x => _ | none => false) = false; rw [chain_no HS.out HC.out g7]))
                have hB7 := Below.on' hB4 hB6
                rw [g7]
                clear HC HS HE HK
                go_wp2
                go_ret
                exact RV.mk (by rw [HF.out]; rfl) hB7
            · have HC' : Hid (chainF az L = some st) := Lib.hid (by have := HC.out; rw [List.take_of_length_le (by omega)] at this; exact this)
              have hX5 := hX4.below hBx
              have hY5 := hY4.upto (by omega) hBx
              have hZ5 := hZ4.upto (by omega) hBx
              have hwx := hBx.size
              obtain ⟨y0, z0⟩ := hY5 0 _ rfl
              obtain ⟨y1, z1⟩ := hY5 1 _ rfl
              obtain ⟨y2, z2⟩ := hY5 2 _ rfl
              obtain ⟨y3, z3⟩ := hY5 3 _ rfl
              obtain ⟨y4, z4⟩ := hY5 4 _ rfl
              have u0 := (hZ5 0 _ rfl).1
              have u1 := (hZ5 1 _ rfl).1
              have u2 := (hZ5 2 _ rfl).1
              have u3 := (hZ5 3 _ rfl).1
              have u4 := (hZ5 4 _ rfl).1
              have HE' : Hid (endAt f n s k = App.eqB ⟨an, ak, ad, ac, st⟩ ⟨bn, bk, bd, bc, bz⟩) := Lib.hid (by rw [HE.out]; show (match chainF az L with | some x => App.eqB ⟨an, ak, ad, ac, x⟩ ⟨bn, bk, bd, bc, bz⟩ | none => false) = _; rw [HC'.out])
              have hB6 := hset _ (.int .i64 st) hB5
              have hX6 := hoff _ (.int .i64 st) hX5
              clear HC HC' HE z0 z1 z2 z3
              by_cases g8 : App.eqB ⟨an, ak, ad, ac, st⟩ ⟨bn, bk, bd, bc, bz⟩ = true
              · have qa := App.neq ⟨an, ak, ad, ac, st⟩ ⟨bn, bk, bd, bc, bz⟩ false g8
                dsimp only at qa
                have HX' := Lib.hid (upto_step HK.out (by rw [HE'.out, g8]))
                clear HK HE' g8
                go_wp2
                go_roundw
                case rel => exact ⟨k + 1, by omega, by go_num, HX', hX6, hB6⟩
                case measure => simp [intOf]; omega
              · have g8 : App.eqB ⟨an, ak, ad, ac, st⟩ ⟨bn, bk, bd, bc, bz⟩ = false := by simpa using g8
                have qa := App.neq ⟨an, ak, ad, ac, st⟩ ⟨bn, bk, bd, bc, bz⟩ true g8
                dsimp only at qa
                have HF : Hid (endsB f n s r h = false) := Lib.hid (by rw [HA.out]; exact upto_no hlt (by rw [HE'.out, g8]))
                clear HK HE' g8
                go_wp2
                go_ret
                exact RV.mk (by rw [HF.out]; rfl) hB6
        · obtain rfl : k = f.length := by omega
          have HF : Hid (endsB f n s r h = true) := Lib.hid (by rw [HA.out]; exact upto_all HK.out)
          clear HK HA
          go_wp2
          go_ret
          exact RV.mk (by rw [HF.out]; rfl) hB
end Go.Proofs.YtianabfehonliaaDoor

/- FnRadio: for all drawn channels the law returns true. No conditions beyond the card's own: the listed variables are those that the program's text lays. -/
import Derived.Test.YtjmjilkpckbpeaaGreatDoorDrwQ
import Derived.Test.YtjmjilkpckbpeaaGreatDoorRadC
import Derived.Test.YtjmjilkpckbpeaaGreatDoorRadU
import Derived.Test.YtjmjilkpckbpeaaGreatDoorChM
import Derived.Test.YtjmjilkpckbpeaaGreatDoorSameChan
import Derived.Test.YtjmjilkpckbpeaaGreatDoorSameMsg
import Derived.Test.YtjmjilkpckbpeaaGreatDoorPm
import Derived.Test.YtjmjilkpckbpeaaGreatDoorLR
import Derived.Test.YtjmjilkpckbpeaaGreatDoorLA
import Derived.Test.YtjmjilkpckbpeaaGreatDoorTie
import Derived.Test.YtjmjilkpckbpeaaGreatDoorCards
import Derived.SevenTiedAt
import Derived.Lay
import Derived.BigQuiet
import Derived.Deep.Cut
namespace Go.Proofs.YtjmjilkpckbpeaaGreatDoor.lawRadio
open Go.ChangeShapes Go.WideShapes Go.ChangeAt Go.RowKit Go.Joins Go.Proofs.YtjmjilkpckbpeaaGreatDoor

theorem chan_small {s q h : List Msg} (g : chanB s q h = true) (hm : ∀ y ∈ s, y.f.size ≤ 1048576 ∧ y.b.size ≤ 1048576) : (s.length ≤ 30 ∧ q.length ≤ 30 ∧ h.length ≤ 30) ∧ (∀ y ∈ q, y.f.size ≤ 1048576 ∧ y.b.size ≤ 1048576) ∧ (∀ y ∈ h, y.f.size ≤ 1048576 ∧ y.b.size ≤ 1048576) := by
  obtain ⟨_, k2, k3, k4⟩ := chan_parts g
  have := someB_len k3
  have := someB_len k4
  exact ⟨⟨k2, by omega, by omega⟩, fun y hy => hm y (someB_sub k3 y hy), fun y hy => hm y (someB_sub k3 y (someB_sub k4 y hy))⟩
theorem neqB (b : Bool) : (b != b) = false := by simp
set_option maxRecDepth 100000 in
set_option maxHeartbeats 40000000 in
theorem walk (Aco : Option Addr) (cco : Nat) (co : List Int) (hl1 : co.length ≤ maxLen) (hmco : ∀ x ∈ co, 0 ≤ x ∧ x ≤ 255) (Amo : Option Addr) (cmo : Nat) (mo : List Int) (hl2 : mo.length ≤ maxLen) (hmmo : ∀ x ∈ mo, 0 ≤ x ∧ x ≤ 255) (w : World) (hSco : Sl byE 1 w 0 w.heap.size Aco co) (hSmo : Sl byE 1 w 0 w.heap.size Amo mo) (hL : laidMetH Tryz.prog Rows.fnRadioRow.laid w) (hSh : w.ShapedOpen Tryz.prog) :
    Calls Tryz.prog 3 #[.slice Aco co.length cco, .slice Amo mo.length cmo] w fun e w' => e = .returned (.bool true) ∧ Below w.heap.size w w' := by
  have hS : Said w := by
    have h : laidMet Tryz.prog Rows.fnRadioRow.laid w := by rw [MakeChecks.laidMetH_plain _ _ _ (by kernel_rfl)] at hL; exact hL
    exact said_at h.tail.tail h.tail.tail.tail
  have hX : MaxL w := maxL_of hSh
  have hT : TabW w := hS.tab
  clear hL hSh
  go_enter Tryz.func3, Tryz.ntmps3
  go_wp2_with fail
  refine (big_any Aco Amo cco cmo co mo _ hl1 hl2).mono ?_
  rintro e w1 ⟨v, rfl, hb⟩
  have hB := hb
  clear hb
  cases v with
  | true =>
    go_wp2
    go_ret
    exact ⟨rfl, hB⟩
  | false =>
    go_wp2_with fail
    refine (DrawDeliver_any Aco cco co _ hl1 hmco (hSco.below hB).all).mono ?_
    rintro e w2 ⟨A1, c1, s, A2, c2, r, A3, c3, h, i, rfl, ⟨hl, hm, hO⟩, hb⟩
    replace hB := Below.on' hB hb
    clear hb
    have hq : CM w2 A1 c1 s A2 c2 r A3 c3 h := CM.own hO (by omega) hm.1.big (by omega) hm.2.1.big (by omega) hm.2.2.big
    clear hO hm hl
    replace hq := hq.below ((Below.refl _ _).alloc (Nat.le_refl _) (.cells #[.slice A1 s.length c1, .slice A2 r.length c2, .slice A3 h.length c3] 26))
    replace hB := hB.alloc hB.size (.cells #[.slice A1 s.length c1, .slice A2 r.length c2, .slice A3 h.length c3] 26)
    have hX0 : B3 w2.heap.size (.slice A1 s.length c1) (.slice A2 r.length c2) (.slice A3 h.length c3) (w2.alloc (.cells #[.slice A1 s.length c1, .slice A2 r.length c2, .slice A3 h.length c3] 26)) := B3.new w2 (.slice A1 s.length c1) (.slice A2 r.length c2) (.slice A3 h.length c3) 26 _ rfl
    obtain ⟨s2, r2, h2, ok, hT⟩ : ∃ s2 r2 h2 ok, Hid (delT s r h i = ((s2, r2, h2), ok)) := ⟨_, _, _, _, Lib.hid rfl⟩
    have cDi : ∀ W, CM W A1 c1 s A2 c2 r A3 c3 h → Calls Tryz.prog 8 #[.agg #[.slice A1 s.length c1, .slice A2 r.length c2, .slice A3 h.length c3], .int .i64 i] W (RCX W s2 r2 h2 ok) := fun W q => by
      have := Deliver_implO A1 c1 s A2 c2 r A3 c3 h i W q.l1 q.m1 q.p1 q.k1 q.l2 q.m2 q.p2 q.k2 q.l3 q.m3 q.p3 q.k3
      rw [hT.out] at this
      exact this
    have cDs : ∀ W, CM W A1 c1 s A2 c2 r A3 c3 h → Calls Tryz.prog 9 #[.agg #[.slice A1 s.length c1, .slice A2 r.length c2, .slice A3 h.length c3], .int .i64 i] W (RCX W s2 r2 h2 ok) := fun W q => by
      have := Deliver_specO A1 c1 s A2 c2 r A3 c3 h i W q.l1 q.m1 q.p1 q.k1 q.l2 q.m2 q.p2 q.k2 q.l3 q.m3 q.p3 q.k3
      rw [hT.out] at this
      exact this
    have n2 : s2.length ≤ 1048576 ∧ r2.length ≤ 1048576 ∧ h2.length ≤ 1048576 := by
      have := delT_len (i := i) hq.l1 hq.l2 hq.l3
      rw [hT.out] at this
      exact this
    have f1 : ok = true → ∃ (k : Nat) (m : Msg), i = (k : Int) ∧ s[k]? = some m ∧ s = s2 ∧ h = h2 ∧ delT s r2 h k = ((s, r2, h), true) ∧ chanB s r2 h = true ∧ wasT s r2 h m.f m.n = (true, true) := fun g => by
      have g' : (delT s r h i).2 = true := by rw [hT.out]; exact g
      obtain ⟨k, m, rfl, hk, a1, a2, a3, a4⟩ := del_law g'
      rw [hT.out] at a1
      injection a1 with a1 _
      injection a1 with a1 a5
      injection a5 with a5 a6
      subst a1 a5 a6
      refine ⟨k, m, rfl, hk, rfl, rfl, a2, a3, ?_⟩
      have hn := (sentB_at (chan_parts a3).1 hk).1
      unfold msgB at hn
      simp only [Bool.and_eq_true] at hn
      rw [wasT_yes (by unfold wasOk; rw [a3, hn.1.1, hn.1.2]; rfl)]
      congr 1
      exact List.any_eq_true.2 ⟨m, a4, keyP_iff.2 ⟨rfl, rfl⟩⟩
    clear hT
    replace f1 := Lib.hid f1
    obtain ⟨x0, x1, x2, _, _, _⟩ := id hX0
    go_wp2_with fail
    refine (cDi _ hq).mono ?_
    rintro e w3 ⟨D1, d1, D2, d2, D3, d3, rfl, hO2, hb⟩
    replace hq := hq.below hb
    replace hX0 := hX0.below hb
    replace hB := Below.on' hB hb
    clear hb
    clear x0 x1 x2
    replace hO2 := hO2.lift (Nat.zero_le _)
    replace hq := hq.below ((Below.refl _ _).alloc (Nat.le_refl _) (.cells #[.slice D1 s2.length d1, .slice D2 r2.length d2, .slice D3 h2.length d3] 26))
    replace hX0 := hX0.below ((Below.refl _ _).alloc (Nat.le_refl _) (.cells #[.slice D1 s2.length d1, .slice D2 r2.length d2, .slice D3 h2.length d3] 26))
    replace hO2 := hO2.below ((Below.refl _ _).alloc (Nat.le_refl _) (.cells #[.slice D1 s2.length d1, .slice D2 r2.length d2, .slice D3 h2.length d3] 26))
    replace hB := hB.alloc hB.size (.cells #[.slice D1 s2.length d1, .slice D2 r2.length d2, .slice D3 h2.length d3] 26)
    have hX1 : B3 w3.heap.size (.slice D1 s2.length d1) (.slice D2 r2.length d2) (.slice D3 h2.length d3) (w3.alloc (.cells #[.slice D1 s2.length d1, .slice D2 r2.length d2, .slice D3 h2.length d3] 26)) := B3.new w3 (.slice D1 s2.length d1) (.slice D2 r2.length d2) (.slice D3 h2.length d3) 26 _ rfl
    obtain ⟨x0, x1, x2, _, _, _⟩ := id hX0
    go_wp2_with fail
    refine (cDs _ hq).mono ?_
    rintro e w4 ⟨E1, e1, E2, e2, E3, e3, rfl, hO3, hb⟩
    replace hq := hq.below hb
    replace hX0 := hX0.below hb
    replace hO2 := hO2.below hb
    replace hX1 := hX1.below hb
    replace hB := Below.on' hB hb
    clear hb
    clear x0 x1 x2
    replace hO3 := hO3.lift (Nat.zero_le _)
    clear cDi cDs
    replace hq := hq.below ((Below.refl _ _).alloc (Nat.le_refl _) (.cells #[.slice E1 s2.length e1, .slice E2 r2.length e2, .slice E3 h2.length e3] 26))
    replace hX0 := hX0.below ((Below.refl _ _).alloc (Nat.le_refl _) (.cells #[.slice E1 s2.length e1, .slice E2 r2.length e2, .slice E3 h2.length e3] 26))
    replace hO2 := hO2.below ((Below.refl _ _).alloc (Nat.le_refl _) (.cells #[.slice E1 s2.length e1, .slice E2 r2.length e2, .slice E3 h2.length e3] 26))
    replace hX1 := hX1.below ((Below.refl _ _).alloc (Nat.le_refl _) (.cells #[.slice E1 s2.length e1, .slice E2 r2.length e2, .slice E3 h2.length e3] 26))
    replace hO3 := hO3.below ((Below.refl _ _).alloc (Nat.le_refl _) (.cells #[.slice E1 s2.length e1, .slice E2 r2.length e2, .slice E3 h2.length e3] 26))
    replace hB := hB.alloc hB.size (.cells #[.slice E1 s2.length e1, .slice E2 r2.length e2, .slice E3 h2.length e3] 26)
    have hX2 : B3 w4.heap.size (.slice E1 s2.length e1) (.slice E2 r2.length e2) (.slice E3 h2.length e3) (w4.alloc (.cells #[.slice E1 s2.length e1, .slice E2 r2.length e2, .slice E3 h2.length e3] 26)) := B3.new w4 (.slice E1 s2.length e1) (.slice E2 r2.length e2) (.slice E3 h2.length e3) 26 _ rfl
    go_upto_region 6 with fail
    go_cut [84] from 56 (fun v wx => v = .bool false ∧ Below w.heap.size w wx ∧ CM wx A1 c1 s A2 c2 r A3 c3 h ∧ B3 w2.heap.size (.slice A1 s.length c1) (.slice A2 r.length c2) (.slice A3 h.length c3) wx ∧ B3 w3.heap.size (.slice D1 s2.length d1) (.slice D2 r2.length d2) (.slice D3 h2.length d3) wx ∧ B3 w4.heap.size (.slice E1 s2.length e1) (.slice E2 r2.length e2) (.slice E3 h2.length e3) wx ∧ OwnC wx 0 D1 d1 s2 D2 d2 r2 D3 d3 h2 ∧ OwnC wx 0 E1 e1 s2 E2 e2 r2 E3 e3 h2)
    case first =>
      as_aux_lemma =>
        clear f1
        cases ok with
        | false =>
          obtain ⟨x0, x1, x2, _, _, _⟩ := id hX1
          obtain ⟨y0, y1, y2, _, _, _⟩ := id hX2
          go_wp2_with fail
          refine (pSameChannel_any D1 d1 D2 d2 D3 d3 E1 e1 E2 e2 E3 e3 s2 r2 h2 _ n2.1 n2.2.1 n2.2.2 hO2.mr.p1 hO2.mr.p2 hO2.mr.p3 hO3.mr.p1 hO3.mr.p2 hO3.mr.p3).mono ?_
          rintro e v1 ⟨rfl, hb⟩
          replace hq := hq.below hb
          replace hX0 := hX0.below hb
          replace hX1 := hX1.below hb
          replace hX2 := hX2.below hb
          replace hO2 := hO2.below hb
          replace hO3 := hO3.below hb
          replace hB := Below.on' hB hb
          clear hb
          clear x0 x1 x2 y0 y1 y2
          go_wp2_with fail
          go_meet
          exact ⟨rfl, hB, hq, hX0, hX1, hX2, hO2, hO3⟩
        | true =>
          obtain ⟨x0, x1, x2, _, _, _⟩ := id hX1
          obtain ⟨y0, y1, y2, _, _, _⟩ := id hX2
          go_wp2_with fail
          refine (pSameChannel_any D1 d1 D2 d2 D3 d3 E1 e1 E2 e2 E3 e3 s2 r2 h2 _ n2.1 n2.2.1 n2.2.2 hO2.mr.p1 hO2.mr.p2 hO2.mr.p3 hO3.mr.p1 hO3.mr.p2 hO3.mr.p3).mono ?_
          rintro e v1 ⟨rfl, hb⟩
          replace hq := hq.below hb
          replace hX0 := hX0.below hb
          replace hX1 := hX1.below hb
          replace hX2 := hX2.below hb
          replace hO2 := hO2.below hb
          replace hO3 := hO3.below hb
          replace hB := Below.on' hB hb
          clear hb
          clear x0 x1 x2 y0 y1 y2
          go_wp2_with fail
          go_meet
          exact ⟨rfl, hB, hq, hX0, hX1, hX2, hO2, hO3⟩
    case rest =>
      as_aux_lemma =>
        obtain ⟨rfl, hI⟩ := hcut
        clear hB hq hX0 hX1 hX2 hO2 hO3
        go_upto_if 85 with fail
        go_cut [4] from 354 (fun v wx => v = .bool false ∧ Below w.heap.size w wx)
        case first =>
          as_aux_lemma =>
            obtain ⟨hB, hq, hX0, hX1, hX2, hO2, hO3⟩ := hI
            cases ok with
            | false =>
              clear f1
              go_wp2_with fail
              go_meet
              exact ⟨rfl, hB⟩
            | true =>
              obtain ⟨k, m, rfl, hgt, e1, e2, hT2, hg, hw⟩ := f1.out rfl
              subst e1 e2
              clear f1
              obtain ⟨b1_, b2_, b3_⟩ := chan_small hg hq.m1
              have hks : k < s.length := (List.getElem?_eq_some_iff.1 hgt).1
              have hks' : (k : Int) < s.length := by omega
              have hk0 : (0 : Int) ≤ k := by omega
              have hQ2 := CM.own hO2 n2.1 hq.m1 n2.2.1 b2_ n2.2.2 b3_
              have hmz := hq.m1 m (List.mem_of_getElem? hgt)
              have cD : ∀ W, CM W D1 d1 s D2 d2 r2 D3 d3 h → Calls Tryz.prog 8 #[.agg #[.slice D1 s.length d1, .slice D2 r2.length d2, .slice D3 h.length d3], .int .i64 (k : Int)] W (RCX W s r2 h true) := fun W q => by
                have := Deliver_implO D1 d1 s D2 d2 r2 D3 d3 h k W q.l1 q.m1 q.p1 q.k1 q.l2 q.m2 q.p2 q.k2 q.l3 q.m3 q.p3 q.k3
                rw [hT2] at this
                exact this
              have cW : ∀ W, CM W D1 d1 s D2 d2 r2 D3 d3 h → Calls Tryz.prog 11 #[.agg #[.slice D1 s.length d1, .slice D2 r2.length d2, .slice D3 h.length d3], .string m.f, .int .i64 m.n] W (RV W (.tuple #[.bool true, .bool true])) := fun W q => by
                have := WasReceived_impl D1 d1 s D2 d2 r2 D3 d3 h m.f m.n W q.l1 q.m1 q.p1 q.k1 q.l2 q.m2 q.p2 q.k2 q.l3 q.m3 q.p3 q.k3 hmz.1
                rw [hw] at this
                exact this
              clear hT2 hw hO2 b1_ b2_ b3_ hmz
              replace hg := Lib.hid hg
              replace hgt := Lib.hid hgt
              obtain ⟨x0, x1, x2, _, _, _⟩ := id hX1
              go_wp2_with fail
              refine (cD _ hQ2).mono ?_
              rintro e w11 ⟨F1, i1, F2, i2, F3, i3, rfl, hO4, hb⟩
              replace hq := hq.below hb
              replace hX0 := hX0.below hb
              replace hX1 := hX1.below hb
              replace hX2 := hX2.below hb
              replace hO3 := hO3.below hb
              replace hQ2 := hQ2.below hb
              replace hB := Below.on' hB hb
              clear hb
              clear x0 x1 x2
              replace hO4 := hO4.lift (Nat.zero_le _)
              clear cD
              replace hq := hq.below ((Below.refl _ _).alloc (Nat.le_refl _) (.cells #[.slice F1 s.length i1, .slice F2 r2.length i2, .slice F3 h.length i3] 26))
              replace hX0 := hX0.below ((Below.refl _ _).alloc (Nat.le_refl _) (.cells #[.slice F1 s.length i1, .slice F2 r2.length i2, .slice F3 h.length i3] 26))
              replace hX1 := hX1.below ((Below.refl _ _).alloc (Nat.le_refl _) (.cells #[.slice F1 s.length i1, .slice F2 r2.length i2, .slice F3 h.length i3] 26))
              replace hX2 := hX2.below ((Below.refl _ _).alloc (Nat.le_refl _) (.cells #[.slice F1 s.length i1, .slice F2 r2.length i2, .slice F3 h.length i3] 26))
              replace hO3 := hO3.below ((Below.refl _ _).alloc (Nat.le_refl _) (.cells #[.slice F1 s.length i1, .slice F2 r2.length i2, .slice F3 h.length i3] 26))
              replace hQ2 := hQ2.below ((Below.refl _ _).alloc (Nat.le_refl _) (.cells #[.slice F1 s.length i1, .slice F2 r2.length i2, .slice F3 h.length i3] 26))
              replace hO4 := hO4.below ((Below.refl _ _).alloc (Nat.le_refl _) (.cells #[.slice F1 s.length i1, .slice F2 r2.length i2, .slice F3 h.length i3] 26))
              replace hB := hB.alloc hB.size (.cells #[.slice F1 s.length i1, .slice F2 r2.length i2, .slice F3 h.length i3] 26)
              have hX3 : B3 w11.heap.size (.slice F1 s.length i1) (.slice F2 r2.length i2) (.slice F3 h.length i3) (w11.alloc (.cells #[.slice F1 s.length i1, .slice F2 r2.length i2, .slice F3 h.length i3] 26)) := B3.new w11 (.slice F1 s.length i1) (.slice F2 r2.length i2) (.slice F3 h.length i3) 26 _ rfl
              obtain ⟨bb, off, rfl, _, _, _, hf_⟩ := hq.p1.at_ hgt.out
              have c0 : (w11.alloc (.cells #[.slice F1 s.length i1, .slice F2 r2.length i2, .slice F3 h.length i3] 26)).cell? ⟨bb, off + k * 3, none⟩ = some (.string m.f) := (hf_ 0 _ rfl).1
              have c1 : (w11.alloc (.cells #[.slice F1 s.length i1, .slice F2 r2.length i2, .slice F3 h.length i3] 26)).cell? ⟨bb, off + k * 3 + 1, none⟩ = some (.int .i64 m.n) := (hf_ 1 _ rfl).1
              have c2 : (w11.alloc (.cells #[.slice F1 s.length i1, .slice F2 r2.length i2, .slice F3 h.length i3] 26)).cell? ⟨bb, off + k * 3 + 2, none⟩ = some (.string m.b) := (hf_ 2 _ rfl).1
              have hM := B3.new (w11.alloc (.cells #[.slice F1 s.length i1, .slice F2 r2.length i2, .slice F3 h.length i3] 26)) (.string m.f) (.int .i64 m.n) (.string m.b) 33 _ rfl
              clear hf_
              obtain ⟨x0, x1, x2, _, _, _⟩ := id hX0
              replace hq := hq.below ((Below.refl _ _).alloc (Nat.le_refl _) (.cells #[.string m.f, .int .i64 m.n, .string m.b] 33))
              replace hX0 := hX0.below ((Below.refl _ _).alloc (Nat.le_refl _) (.cells #[.string m.f, .int .i64 m.n, .string m.b] 33))
              replace hX1 := hX1.below ((Below.refl _ _).alloc (Nat.le_refl _) (.cells #[.string m.f, .int .i64 m.n, .string m.b] 33))
              replace hX2 := hX2.below ((Below.refl _ _).alloc (Nat.le_refl _) (.cells #[.string m.f, .int .i64 m.n, .string m.b] 33))
              replace hO3 := hO3.below ((Below.refl _ _).alloc (Nat.le_refl _) (.cells #[.string m.f, .int .i64 m.n, .string m.b] 33))
              replace hQ2 := hQ2.below ((Below.refl _ _).alloc (Nat.le_refl _) (.cells #[.string m.f, .int .i64 m.n, .string m.b] 33))
              replace hO4 := hO4.below ((Below.refl _ _).alloc (Nat.le_refl _) (.cells #[.string m.f, .int .i64 m.n, .string m.b] 33))
              replace hX3 := hX3.below ((Below.refl _ _).alloc (Nat.le_refl _) (.cells #[.string m.f, .int .i64 m.n, .string m.b] 33))
              replace hB := hB.alloc hB.size (.cells #[.string m.f, .int .i64 m.n, .string m.b] 33)
              obtain ⟨y0, y1, y2, _, _, _⟩ := id hX1
              obtain ⟨z0, z1, z2, _, _, _⟩ := id hM
              go_wp2_with fail
              refine (cW _ hQ2).mono ?_
              rintro e w12 ⟨rfl, hb⟩
              replace hq := hq.below hb
              replace hX0 := hX0.below hb
              replace hX1 := hX1.below hb
              replace hX2 := hX2.below hb
              replace hO3 := hO3.below hb
              replace hQ2 := hQ2.below hb
              replace hO4 := hO4.below hb
              replace hX3 := hX3.below hb
              replace hB := Below.on' hB hb
              clear hb
              clear x0 x1 x2 y0 y1 y2 z0 z1 z2
              clear cW c0 c1 c2 hM hX0
              obtain ⟨x0, x1, x2, _, _, _⟩ := id hX3
              obtain ⟨y0, y1, y2, _, _, _⟩ := id hX2
              obtain ⟨z0, z1, z2, _, _, _⟩ := id hX1
              go_wp2_with fail
              refine (pSameChannel_any F1 i1 F2 i2 F3 i3 E1 e1 E2 e2 E3 e3 s r2 h _ n2.1 n2.2.1 n2.2.2 hO4.mr.p1 hO4.mr.p2 hO4.mr.p3 hO3.mr.p1 hO3.mr.p2 hO3.mr.p3).mono ?_
              rintro e v1 ⟨rfl, hb⟩
              replace hq := hq.below hb
              replace hX1 := hX1.below hb
              replace hX2 := hX2.below hb
              replace hO3 := hO3.below hb
              replace hQ2 := hQ2.below hb
              replace hO4 := hO4.below hb
              replace hX3 := hX3.below hb
              replace hB := Below.on' hB hb
              clear hb
              clear x0 x1 x2 y0 y1 y2 z0 z1 z2
              obtain ⟨z0, z1, z2, _, _, _⟩ := id hX1
              go_wp2_with fail
              refine (IsChannel_impl D1 d1 s D2 d2 r2 D3 d3 h _ hQ2.l1 hQ2.m1 hQ2.p1 hQ2.k1 hQ2.l2 hQ2.m2 hQ2.p2 hQ2.k2 hQ2.l3 hQ2.m3 hQ2.p3 hQ2.k3).mono ?_
              rintro e v2 ⟨rfl, hb⟩
              rw [hg.out]
              replace hB := Below.on' hB hb
              clear hb
              clear z0 z1 z2
              go_wp2_with fail
              go_meet
              exact ⟨rfl, hB⟩
        case rest =>
          as_aux_lemma =>
            obtain ⟨rfl, hI⟩ := hcut
            clear f1 n2
            have hB := hI
            clear hI
            go_wp2_with fail
            refine (DrawConfirm_any Amo cmo mo _ hl2 hmmo (hSmo.below hB).all).mono ?_
            rintro e w21 ⟨A1, c1, s, A2, c2, r, A3, c3, h, j, rfl, ⟨hl, hm, hO⟩, hb⟩
            replace hB := Below.on' hB hb
            clear hb
            have hq : CM w21 A1 c1 s A2 c2 r A3 c3 h := CM.own hO (by omega) hm.1.big (by omega) hm.2.1.big (by omega) hm.2.2.big
            clear hO hm hl
            replace hq := hq.below ((Below.refl _ _).alloc (Nat.le_refl _) (.cells #[.slice A1 s.length c1, .slice A2 r.length c2, .slice A3 h.length c3] 26))
            replace hB := hB.alloc hB.size (.cells #[.slice A1 s.length c1, .slice A2 r.length c2, .slice A3 h.length c3] 26)
            have hX0 : B3 w21.heap.size (.slice A1 s.length c1) (.slice A2 r.length c2) (.slice A3 h.length c3) (w21.alloc (.cells #[.slice A1 s.length c1, .slice A2 r.length c2, .slice A3 h.length c3] 26)) := B3.new w21 (.slice A1 s.length c1) (.slice A2 r.length c2) (.slice A3 h.length c3) 26 _ rfl
            obtain ⟨s2, r2, h2, ok, hT⟩ : ∃ s2 r2 h2 ok, Hid (conT s r h j = ((s2, r2, h2), ok)) := ⟨_, _, _, _, Lib.hid rfl⟩
            have cDi : ∀ W, CM W A1 c1 s A2 c2 r A3 c3 h → Calls Tryz.prog 14 #[.agg #[.slice A1 s.length c1, .slice A2 r.length c2, .slice A3 h.length c3], .int .i64 j] W (RCX W s2 r2 h2 ok) := fun W q => by
              have := Confirm_implO A1 c1 s A2 c2 r A3 c3 h j W q.l1 q.m1 q.p1 q.k1 q.l2 q.m2 q.p2 q.k2 q.l3 q.m3 q.p3 q.k3
              rw [hT.out] at this
              exact this
            have cDs : ∀ W, CM W A1 c1 s A2 c2 r A3 c3 h → Calls Tryz.prog 15 #[.agg #[.slice A1 s.length c1, .slice A2 r.length c2, .slice A3 h.length c3], .int .i64 j] W (RCX W s2 r2 h2 ok) := fun W q => by
              have := Confirm_specO A1 c1 s A2 c2 r A3 c3 h j W q.l1 q.m1 q.p1 q.k1 q.l2 q.m2 q.p2 q.k2 q.l3 q.m3 q.p3 q.k3
              rw [hT.out] at this
              exact this
            have n2 : s2.length ≤ 1048576 ∧ r2.length ≤ 1048576 ∧ h2.length ≤ 1048576 := by
              have := conT_len (i := j) hq.l1 hq.l2 hq.l3
              rw [hT.out] at this
              exact this
            have f1 : ok = true → ∃ (k : Nat) (m : Msg), j = (k : Int) ∧ r[k]? = some m ∧ s = s2 ∧ r = r2 ∧ conT s r h2 k = ((s, r, h2), true) ∧ chanB s r h2 = true ∧ chanB s r h = true ∧ (∀ x ∈ uncF s h2, x ≠ m) ∧ (uncF s h2).length ≤ (uncF s h).length := fun g => by
              have g' : (conT s r h j).2 = true := by rw [hT.out]; exact g
              obtain ⟨k, m, rfl, hk, a1, a2, a3, a4, a7⟩ := con_law g'
              rw [hT.out] at a1
              injection a1 with a1 _
              injection a1 with a1 a5
              injection a5 with a5 a6
              subst a1 a5 a6
              exact ⟨k, m, rfl, hk, rfl, rfl, a2, a4, a3, fun x hx e => (uncF_mem.1 hx).2 (e ▸ a7), uncF_sub fun x hx => mem_addM.2 (.inl hx)⟩
            clear hT
            replace f1 := Lib.hid f1
            obtain ⟨x0, x1, x2, _, _, _⟩ := id hX0
            go_wp2_with fail
            refine (cDi _ hq).mono ?_
            rintro e w22 ⟨D1, d1, D2, d2, D3, d3, rfl, hO2, hb⟩
            replace hq := hq.below hb
            replace hX0 := hX0.below hb
            replace hB := Below.on' hB hb
            clear hb
            clear x0 x1 x2
            replace hO2 := hO2.lift (Nat.zero_le _)
            replace hq := hq.below ((Below.refl _ _).alloc (Nat.le_refl _) (.cells #[.slice D1 s2.length d1, .slice D2 r2.length d2, .slice D3 h2.length d3] 26))
            replace hX0 := hX0.below ((Below.refl _ _).alloc (Nat.le_refl _) (.cells #[.slice D1 s2.length d1, .slice D2 r2.length d2, .slice D3 h2.length d3] 26))
            replace hO2 := hO2.below ((Below.refl _ _).alloc (Nat.le_refl _) (.cells #[.slice D1 s2.length d1, .slice D2 r2.length d2, .slice D3 h2.length d3] 26))
            replace hB := hB.alloc hB.size (.cells #[.slice D1 s2.length d1, .slice D2 r2.length d2, .slice D3 h2.length d3] 26)
            have hX1 : B3 w22.heap.size (.slice D1 s2.length d1) (.slice D2 r2.length d2) (.slice D3 h2.length d3) (w22.alloc (.cells #[.slice D1 s2.length d1, .slice D2 r2.length d2, .slice D3 h2.length d3] 26)) := B3.new w22 (.slice D1 s2.length d1) (.slice D2 r2.length d2) (.slice D3 h2.length d3) 26 _ rfl
            obtain ⟨x0, x1, x2, _, _, _⟩ := id hX0
            go_wp2_with fail
            refine (cDs _ hq).mono ?_
            rintro e w23 ⟨E1, e1, E2, e2, E3, e3, rfl, hO3, hb⟩
            replace hq := hq.below hb
            replace hX0 := hX0.below hb
            replace hO2 := hO2.below hb
            replace hX1 := hX1.below hb
            replace hB := Below.on' hB hb
            clear hb
            clear x0 x1 x2
            replace hO3 := hO3.lift (Nat.zero_le _)
            clear cDi cDs
            replace hq := hq.below ((Below.refl _ _).alloc (Nat.le_refl _) (.cells #[.slice E1 s2.length e1, .slice E2 r2.length e2, .slice E3 h2.length e3] 26))
            replace hX0 := hX0.below ((Below.refl _ _).alloc (Nat.le_refl _) (.cells #[.slice E1 s2.length e1, .slice E2 r2.length e2, .slice E3 h2.length e3] 26))
            replace hO2 := hO2.below ((Below.refl _ _).alloc (Nat.le_refl _) (.cells #[.slice E1 s2.length e1, .slice E2 r2.length e2, .slice E3 h2.length e3] 26))
            replace hX1 := hX1.below ((Below.refl _ _).alloc (Nat.le_refl _) (.cells #[.slice E1 s2.length e1, .slice E2 r2.length e2, .slice E3 h2.length e3] 26))
            replace hO3 := hO3.below ((Below.refl _ _).alloc (Nat.le_refl _) (.cells #[.slice E1 s2.length e1, .slice E2 r2.length e2, .slice E3 h2.length e3] 26))
            replace hB := hB.alloc hB.size (.cells #[.slice E1 s2.length e1, .slice E2 r2.length e2, .slice E3 h2.length e3] 26)
            have hX2 : B3 w23.heap.size (.slice E1 s2.length e1) (.slice E2 r2.length e2) (.slice E3 h2.length e3) (w23.alloc (.cells #[.slice E1 s2.length e1, .slice E2 r2.length e2, .slice E3 h2.length e3] 26)) := B3.new w23 (.slice E1 s2.length e1) (.slice E2 r2.length e2) (.slice E3 h2.length e3) 26 _ rfl
            go_upto_region 17 with fail
            go_cut [152] from 354 (fun v wx => v = .bool false ∧ Below w.heap.size w wx ∧ CM wx A1 c1 s A2 c2 r A3 c3 h ∧ B3 w21.heap.size (.slice A1 s.length c1) (.slice A2 r.length c2) (.slice A3 h.length c3) wx ∧ B3 w22.heap.size (.slice D1 s2.length d1) (.slice D2 r2.length d2) (.slice D3 h2.length d3) wx ∧ B3 w23.heap.size (.slice E1 s2.length e1) (.slice E2 r2.length e2) (.slice E3 h2.length e3) wx ∧ OwnC wx 0 D1 d1 s2 D2 d2 r2 D3 d3 h2 ∧ OwnC wx 0 E1 e1 s2 E2 e2 r2 E3 e3 h2)
            case first =>
              as_aux_lemma =>
                clear f1
                cases ok with
                | false =>
                  obtain ⟨x0, x1, x2, _, _, _⟩ := id hX1
                  obtain ⟨y0, y1, y2, _, _, _⟩ := id hX2
                  go_wp2_with fail
                  refine (pSameChannel_any D1 d1 D2 d2 D3 d3 E1 e1 E2 e2 E3 e3 s2 r2 h2 _ n2.1 n2.2.1 n2.2.2 hO2.mr.p1 hO2.mr.p2 hO2.mr.p3 hO3.mr.p1 hO3.mr.p2 hO3.mr.p3).mono ?_
                  rintro e v1 ⟨rfl, hb⟩
                  replace hq := hq.below hb
                  replace hX0 := hX0.below hb
                  replace hX1 := hX1.below hb
                  replace hX2 := hX2.below hb
                  replace hO2 := hO2.below hb
                  replace hO3 := hO3.below hb
                  replace hB := Below.on' hB hb
                  clear hb
                  clear x0 x1 x2 y0 y1 y2
                  go_wp2_with fail
                  go_meet
                  exact ⟨rfl, hB, hq, hX0, hX1, hX2, hO2, hO3⟩
                | true =>
                  obtain ⟨x0, x1, x2, _, _, _⟩ := id hX1
                  obtain ⟨y0, y1, y2, _, _, _⟩ := id hX2
                  go_wp2_with fail
                  refine (pSameChannel_any D1 d1 D2 d2 D3 d3 E1 e1 E2 e2 E3 e3 s2 r2 h2 _ n2.1 n2.2.1 n2.2.2 hO2.mr.p1 hO2.mr.p2 hO2.mr.p3 hO3.mr.p1 hO3.mr.p2 hO3.mr.p3).mono ?_
                  rintro e v1 ⟨rfl, hb⟩
                  replace hq := hq.below hb
                  replace hX0 := hX0.below hb
                  replace hX1 := hX1.below hb
                  replace hX2 := hX2.below hb
                  replace hO2 := hO2.below hb
                  replace hO3 := hO3.below hb
                  replace hB := Below.on' hB hb
                  clear hb
                  clear x0 x1 x2 y0 y1 y2
                  go_wp2_with fail
                  go_meet
                  exact ⟨rfl, hB, hq, hX0, hX1, hX2, hO2, hO3⟩
            case rest =>
              as_aux_lemma =>
                obtain ⟨rfl, hI⟩ := hcut
                clear hB hq hX0 hX1 hX2 hO2 hO3
                go_upto_if 153 with fail
                go_cut [4] from 354 (fun v wx => v = .bool false ∧ Below w.heap.size w wx)
                case first =>
                  as_aux_lemma =>
                    obtain ⟨hB, hq, hX0, hX1, hX2, hO2, hO3⟩ := hI
                    cases ok with
                    | false =>
                      clear f1
                      go_wp2_with fail
                      go_meet
                      exact ⟨rfl, hB⟩
                    | true =>
                      obtain ⟨k, m, rfl, hgt, e1, e2, hT2, hg, hg0, hne, hlu⟩ := f1.out rfl
                      subst e1 e2
                      clear f1
                      obtain ⟨b1_, b2_, b3_⟩ := chan_small hg hq.m1
                      have hkr : k < r.length := (List.getElem?_eq_some_iff.1 hgt).1
                      have hkr' : (k : Int) < r.length := by omega
                      have hk0 : (0 : Int) ≤ k := by omega
                      have hQ2 := CM.own hO2 n2.1 hq.m1 n2.2.1 b2_ n2.2.2 b3_
                      have hQ3 := CM.own hO3 n2.1 hq.m1 n2.2.1 b2_ n2.2.2 b3_
                      have cD : ∀ W, CM W D1 d1 s D2 d2 r D3 d3 h2 → Calls Tryz.prog 14 #[.agg #[.slice D1 s.length d1, .slice D2 r.length d2, .slice D3 h2.length d3], .int .i64 (k : Int)] W (RCX W s r h2 true) := fun W q => by
                        have := Confirm_implO D1 d1 s D2 d2 r D3 d3 h2 k W q.l1 q.m1 q.p1 q.k1 q.l2 q.m2 q.p2 q.k2 q.l3 q.m3 q.p3 q.k3
                        rw [hT2] at this
                        exact this
                      have cU : ∀ W, CM W D1 d1 s D2 d2 r D3 d3 h2 → Calls Tryz.prog 16 #[.agg #[.slice D1 s.length d1, .slice D2 r.length d2, .slice D3 h2.length d3]] W (RUN W (uncF s h2) true) := fun W q => by
                        have := Unconfirmed_impl D1 d1 s D2 d2 r D3 d3 h2 W q.l1 q.m1 q.p1 q.k1 q.l2 q.m2 q.p2 q.k2 q.l3 q.m3 q.p3 q.k3
                        rw [uncT_yes hg] at this
                        exact this
                      have cV : ∀ W, CM W E1 e1 s E2 e2 r E3 e3 h2 → Calls Tryz.prog 17 #[.agg #[.slice E1 s.length e1, .slice E2 r.length e2, .slice E3 h2.length e3]] W (RUN W (uncF s h2) true) := fun W q => by
                        have := Unconfirmed_spec E1 e1 s E2 e2 r E3 e3 h2 W q.l1 q.m1 q.p1 q.k1 q.l2 q.m2 q.p2 q.k2 q.l3 q.m3 q.p3 q.k3
                        rw [uncT_yes hg] at this
                        exact this
                      have cB : ∀ W, CM W A1 c1 s A2 c2 r A3 c3 h → Calls Tryz.prog 17 #[.agg #[.slice A1 s.length c1, .slice A2 r.length c2, .slice A3 h.length c3]] W (RUN W (uncF s h) true) := fun W q => by
                        have := Unconfirmed_spec A1 c1 s A2 c2 r A3 c3 h W q.l1 q.m1 q.p1 q.k1 q.l2 q.m2 q.p2 q.k2 q.l3 q.m3 q.p3 q.k3
                        rw [uncT_yes hg0] at this
                        exact this
                      have hU1 : (uncF s h2).length ≤ 1048576 := Nat.le_trans (uncF_len s h2) n2.1
                      have hU2 : (uncF s h).length ≤ 1048576 := Nat.le_trans (uncF_len s h) n2.1
                      clear hT2 b1_ b2_ b3_ hg hg0
                      generalize uncF s h2 = O at cU cV hne hlu hU1
                      generalize uncF s h = B at cB hlu hU2
                      replace hgt := Lib.hid hgt
                      replace hne := Lib.hid hne
                      obtain ⟨x0, x1, x2, _, _, _⟩ := id hX1
                      go_wp2_with fail
                      refine (cD _ hQ2).mono ?_
                      rintro e w31 ⟨F1, i1, F2, i2, F3, i3, rfl, hO4, hb⟩
                      replace hq := hq.below hb
                      replace hX0 := hX0.below hb
                      replace hX1 := hX1.below hb
                      replace hX2 := hX2.below hb
                      replace hO3 := hO3.below hb
                      replace hQ2 := hQ2.below hb
                      replace hQ3 := hQ3.below hb
                      replace hB := Below.on' hB hb
                      clear hb
                      clear x0 x1 x2
                      replace hO4 := hO4.lift (Nat.zero_le _)
                      clear cD
                      replace hq := hq.below ((Below.refl _ _).alloc (Nat.le_refl _) (.cells #[.slice F1 s.length i1, .slice F2 r.length i2, .slice F3 h2.length i3] 26))
                      replace hX0 := hX0.below ((Below.refl _ _).alloc (Nat.le_refl _) (.cells #[.slice F1 s.length i1, .slice F2 r.length i2, .slice F3 h2.length i3] 26))
                      replace hX1 := hX1.below ((Below.refl _ _).alloc (Nat.le_refl _) (.cells #[.slice F1 s.length i1, .slice F2 r.length i2, .slice F3 h2.length i3] 26))
                      replace hX2 := hX2.below ((Below.refl _ _).alloc (Nat.le_refl _) (.cells #[.slice F1 s.length i1, .slice F2 r.length i2, .slice F3 h2.length i3] 26))
                      replace hO3 := hO3.below ((Below.refl _ _).alloc (Nat.le_refl _) (.cells #[.slice F1 s.length i1, .slice F2 r.length i2, .slice F3 h2.length i3] 26))
                      replace hQ2 := hQ2.below ((Below.refl _ _).alloc (Nat.le_refl _) (.cells #[.slice F1 s.length i1, .slice F2 r.length i2, .slice F3 h2.length i3] 26))
                      replace hQ3 := hQ3.below ((Below.refl _ _).alloc (Nat.le_refl _) (.cells #[.slice F1 s.length i1, .slice F2 r.length i2, .slice F3 h2.length i3] 26))
                      replace hO4 := hO4.below ((Below.refl _ _).alloc (Nat.le_refl _) (.cells #[.slice F1 s.length i1, .slice F2 r.length i2, .slice F3 h2.length i3] 26))
                      replace hB := hB.alloc hB.size (.cells #[.slice F1 s.length i1, .slice F2 r.length i2, .slice F3 h2.length i3] 26)
                      have hX3 : B3 w31.heap.size (.slice F1 s.length i1) (.slice F2 r.length i2) (.slice F3 h2.length i3) (w31.alloc (.cells #[.slice F1 s.length i1, .slice F2 r.length i2, .slice F3 h2.length i3] 26)) := B3.new w31 (.slice F1 s.length i1) (.slice F2 r.length i2) (.slice F3 h2.length i3) 26 _ rfl
                      obtain ⟨x0, x1, x2, _, _, _⟩ := id hX1
                      go_wp2_with fail
                      refine (cU _ hQ2).mono ?_
                      rintro e w32 ⟨P1, p1, rfl, hP1, hb⟩
                      replace hq := hq.below hb
                      replace hX0 := hX0.below hb
                      replace hX1 := hX1.below hb
                      replace hX2 := hX2.below hb
                      replace hO3 := hO3.below hb
                      replace hQ2 := hQ2.below hb
                      replace hQ3 := hQ3.below hb
                      replace hO4 := hO4.below hb
                      replace hX3 := hX3.below hb
                      replace hB := Below.on' hB hb
                      clear hb
                      clear x0 x1 x2
                      clear cU hX1
                      obtain ⟨x0, x1, x2, _, _, _⟩ := id hX2
                      go_wp2_with fail
                      refine (cV _ hQ3).mono ?_
                      rintro e w33 ⟨P2, p2, rfl, hP2, hb⟩
                      replace hq := hq.below hb
                      replace hX0 := hX0.below hb
                      replace hX2 := hX2.below hb
                      replace hO3 := hO3.below hb
                      replace hQ2 := hQ2.below hb
                      replace hQ3 := hQ3.below hb
                      replace hO4 := hO4.below hb
                      replace hX3 := hX3.below hb
                      replace hP1 := hP1.below hb
                      replace hB := Below.on' hB hb
                      clear hb
                      clear x0 x1 x2
                      clear cV
                      obtain ⟨x0, x1, x2, _, _, _⟩ := id hX0
                      go_wp2_with fail
                      refine (cB _ hq).mono ?_
                      rintro e w34 ⟨P3, p3, rfl, hP3, hb⟩
                      replace hq := hq.below hb
                      replace hX0 := hX0.below hb
                      replace hX2 := hX2.below hb
                      replace hO3 := hO3.below hb
                      replace hQ2 := hQ2.below hb
                      replace hQ3 := hQ3.below hb
                      replace hO4 := hO4.below hb
                      replace hX3 := hX3.below hb
                      replace hP1 := hP1.below hb
                      replace hP2 := hP2.below hb
                      replace hB := Below.on' hB hb
                      clear hb
                      clear x0 x1 x2
                      clear cB hP3
                      go_upto_region 24 with fail
                      go_cut [207] from 354 (fun v wx => v = .bool false ∧ Below w.heap.size w wx ∧ CM wx A1 c1 s A2 c2 r A3 c3 h ∧ B3 w21.heap.size (.slice A1 s.length c1) (.slice A2 r.length c2) (.slice A3 h.length c3) wx ∧ Msgs wx 0 wx.heap.size P2 O)
                      case first =>
                        as_aux_lemma =>
                          have hlu2 : decide (B.length < O.length) = false := by simp; omega
                          clear hne hgt
                          obtain ⟨x0, x1, x2, _, _, _⟩ := id hX3
                          obtain ⟨y0, y1, y2, _, _, _⟩ := id hX2
                          go_wp2_with fail
                          refine (pSameChannel_any F1 i1 F2 i2 F3 i3 E1 e1 E2 e2 E3 e3 s r h2 _ n2.1 n2.2.1 n2.2.2 hO4.mr.p1 hO4.mr.p2 hO4.mr.p3 hO3.mr.p1 hO3.mr.p2 hO3.mr.p3).mono ?_
                          rintro e v1 ⟨rfl, hb⟩
                          replace hq := hq.below hb
                          replace hX0 := hX0.below hb
                          replace hP1 := hP1.below hb
                          replace hP2 := hP2.below hb
                          replace hB := Below.on' hB hb
                          clear hb
                          clear x0 x1 x2 y0 y1 y2
                          go_wp2_with fail
                          refine (pSameMessages_any P1 P2 p1 p2 _ _ _ _ O _ hU1 hP1 hP2).mono ?_
                          rintro e v2 ⟨rfl, hb⟩
                          replace hq := hq.below hb
                          replace hX0 := hX0.below hb
                          replace hP2 := (hP2.below hb).all
                          replace hB := Below.on' hB hb
                          clear hb
                          go_wp2_with fail
                          go_meet
                          exact ⟨by first | rfl | (congr 1), hB, hq, hX0, hP2⟩
                      case rest =>
                        clear hB hq hX0 hX2 hX3 hO3 hO4 hQ2 hQ3 hP1 hP2 hlu hU2
                        obtain ⟨rfl, hB, hq, hX0, hP2⟩ := hcut
                        go_wp2_with fail
                        go_loopw [4, 210] (fun v_ i_ wr => ∃ t : Nat, v_ = .bool false ∧ t ≤ O.length ∧ i_ = .int .i64 t ∧ Below w.heap.size w wr ∧ CM wr A1 c1 s A2 c2 r A3 c3 h ∧ B3 w21.heap.size (.slice A1 s.length c1) (.slice A2 r.length c2) (.slice A3 h.length c3) wr ∧ Msgs wr 0 wr.heap.size P2 O) (fun _ i_ _ => O.length - (intOf i_).toNat)
                        case atStart => exact ⟨0, rfl, Nat.zero_le _, rfl, hB, hq, hX0, hP2⟩
                        case round =>
                          clear hB hq hX0 hP2
                          obtain ⟨t, rfl, ht, rfl, hB, hq, hX0, hP2⟩ := hrel
                          by_cases hlt : t < O.length
                          · obtain ⟨x, hx1, hx2⟩ := get_lt hlt
                            have hxm := Lib.hid (hne.out x hx2)
                            obtain ⟨bb, off, rfl, _, _, _, hf_⟩ := hP2.at_ hx1
                            have c0 : wr.cell? ⟨bb, off + t * 3, none⟩ = some (.string x.f) := (hf_ 0 _ rfl).1
                            have c1 : wr.cell? ⟨bb, off + t * 3 + 1, none⟩ = some (.int .i64 x.n) := (hf_ 1 _ rfl).1
                            have c2 : wr.cell? ⟨bb, off + t * 3 + 2, none⟩ = some (.string x.b) := (hf_ 2 _ rfl).1
                            clear hf_ hx1 hx2
                            have hM := B3.new wr (.string x.f) (.int .i64 x.n) (.string x.b) 33 _ rfl
                            have hbM := (Below.refl wr.heap.size wr).alloc (Nat.le_refl _) (.cells #[.string x.f, .int .i64 x.n, .string x.b] 33)
                            have hqn := hq.below hbM
                            have hXn := hX0.below hbM
                            have hPn := (hP2.below hbM).all
                            have hBn := hB.alloc hB.size (.cells #[.string x.f, .int .i64 x.n, .string x.b] 33)
                            obtain ⟨gb, go_, rfl, _, _, _, hg_⟩ := hqn.p2.at_ hgt.out
                            have d0 : (wr.alloc (.cells #[.string x.f, .int .i64 x.n, .string x.b] 33)).cell? ⟨gb, go_ + k * 3, none⟩ = some (.string m.f) := (hg_ 0 _ rfl).1
                            have d1 : (wr.alloc (.cells #[.string x.f, .int .i64 x.n, .string x.b] 33)).cell? ⟨gb, go_ + k * 3 + 1, none⟩ = some (.int .i64 m.n) := (hg_ 1 _ rfl).1
                            have d2 : (wr.alloc (.cells #[.string x.f, .int .i64 x.n, .string x.b] 33)).cell? ⟨gb, go_ + k * 3 + 2, none⟩ = some (.string m.b) := (hg_ 2 _ rfl).1
                            clear hg_ hbM hB hX0
                            obtain ⟨x0, x1, x2, _, _, _⟩ := id hXn
                            obtain ⟨z0, z1, z2, _, _, _⟩ := id hM
                            have heq := fun W => Msg.eql x m W
                            have hxe : Msg.eqB x m = false := by rw [← Bool.not_eq_true, Msg.eqB_iff]; exact hxm.out
                            rw [hxe] at heq
                            clear hxe hxm hq hP2
                            go_upto_region 29 with fail
                            clear c0 c1 c2
                            generalize wr.alloc (.cells #[.string x.f, .int .i64 x.n, .string x.b] 33) = U at hqn hXn hPn hBn hM x0 x1 x2 z0 z1 z2 d0 d1 d2 ⊢
                            go_quiet (fail)
                            have hbd : Below U.heap.size U (U.drewN nq) := ⟨rfl, rfl, rfl, Nat.le_refl _, fun _ _ => rfl⟩
                            replace hBn := Below.on' hBn hbd
                            replace hqn := hqn.below hbd
                            replace hXn := hXn.below hbd
                            replace hPn := (hPn.below hbd).all
                            clear hbd
                            go_wp2
                            go_roundw
                            case rel => exact ⟨t + 1, rfl, by omega, by go_num, hBn, hqn, hXn, hPn⟩
                            case measure => simp [intOf]; omega
                          · have hlt' : ¬ (t : Int) < O.length := by omega
                            go_wp2_with fail
                            go_meet
                            exact ⟨rfl, hB⟩
                case rest =>
                  as_aux_lemma =>
                    obtain ⟨rfl, hI⟩ := hcut
                    clear f1 n2
                    have hB := hI
                    clear hI
                    go_wp2_with fail
                    refine (DrawUnconfirmed_any Amo cmo mo _ hl2 hmmo (hSmo.below hB).all).mono ?_
                    rintro e w41 ⟨A1, c1, s, A2, c2, r, A3, c3, h, rfl, ⟨hl, hm, hO⟩, hb⟩
                    replace hB := Below.on' hB hb
                    clear hb
                    have hq : CM w41 A1 c1 s A2 c2 r A3 c3 h := CM.own hO (by omega) hm.1.big (by omega) hm.2.1.big (by omega) hm.2.2.big
                    clear hO hm
                    replace hq := hq.below ((Below.refl _ _).alloc (Nat.le_refl _) (.cells #[.slice A1 s.length c1, .slice A2 r.length c2, .slice A3 h.length c3] 26))
                    replace hB := hB.alloc hB.size (.cells #[.slice A1 s.length c1, .slice A2 r.length c2, .slice A3 h.length c3] 26)
                    have hX0 : B3 w41.heap.size (.slice A1 s.length c1) (.slice A2 r.length c2) (.slice A3 h.length c3) (w41.alloc (.cells #[.slice A1 s.length c1, .slice A2 r.length c2, .slice A3 h.length c3] 26)) := B3.new w41 (.slice A1 s.length c1) (.slice A2 r.length c2) (.slice A3 h.length c3) 26 _ rfl
                    have cU := fun W (q : CM W A1 c1 s A2 c2 r A3 c3 h) => Unconfirmed_impl A1 c1 s A2 c2 r A3 c3 h W q.l1 q.m1 q.p1 q.k1 q.l2 q.m2 q.p2 q.k2 q.l3 q.m3 q.p3 q.k3
                    have cV := fun W (q : CM W A1 c1 s A2 c2 r A3 c3 h) => Unconfirmed_spec A1 c1 s A2 c2 r A3 c3 h W q.l1 q.m1 q.p1 q.k1 q.l2 q.m2 q.p2 q.k2 q.l3 q.m3 q.p3 q.k3
                    have cC := fun W (q : CM W A1 c1 s A2 c2 r A3 c3 h) => IsChannel_impl A1 c1 s A2 c2 r A3 c3 h W q.l1 q.m1 q.p1 q.k1 q.l2 q.m2 q.p2 q.k2 q.l3 q.m3 q.p3 q.k3
                    have f1 : (uncT s r h).2 = chanB s r h ∧ (uncT s r h).1.length ≤ 1048576 ∧ (chanB s r h = true → (uncT s r h).1.length + h.length = s.length) := by
                      by_cases g : chanB s r h = true
                      · rw [uncT_yes g]
                        exact ⟨g.symm, Nat.le_trans (uncF_len s h) hq.l1, fun _ => unc_count g⟩
                      · have g : chanB s r h = false := by simpa using g
                        rw [uncT_no g]
                        exact ⟨g.symm, Nat.zero_le _, fun h => (by rw [g] at h; cases h)⟩
                    obtain ⟨f1, hO1, f2⟩ := f1
                    rw [f1] at cU cV
                    generalize (uncT s r h).1 = O at cU cV hO1 f2
                    clear f1
                    generalize chanB s r h = cb at cU cV cC f2
                    replace f2 := Lib.hid f2
                    obtain ⟨x0, x1, x2, _, _, _⟩ := id hX0
                    go_wp2_with fail
                    refine (cU _ hq).mono ?_
                    rintro e w42 ⟨P1, p1, rfl, hP1, hb⟩
                    replace hq := hq.below hb
                    replace hX0 := hX0.below hb
                    replace hB := Below.on' hB hb
                    clear hb
                    clear x0 x1 x2
                    obtain ⟨x0, x1, x2, _, _, _⟩ := id hX0
                    go_wp2_with fail
                    refine (cV _ hq).mono ?_
                    rintro e w43 ⟨P2, p2, rfl, hP2, hb⟩
                    replace hq := hq.below hb
                    replace hX0 := hX0.below hb
                    replace hP1 := hP1.below hb
                    replace hB := Below.on' hB hb
                    clear hb
                    clear x0 x1 x2
                    clear cU cV
                    go_upto_region 35 with fail
                    go_cut [263] from 354 (fun v wx => v = .bool false ∧ Below w.heap.size w wx)
                    case first =>
                      as_aux_lemma =>
                        cases cb with
                        | false =>
                          clear f2
                          obtain ⟨x0, x1, x2, _, _, _⟩ := id hX0
                          go_wp2_with fail
                          refine (pSameMessages_any P1 P2 p1 p2 _ _ _ _ O _ hO1 hP1 hP2).mono ?_
                          rintro e v1 ⟨rfl, hb⟩
                          replace hq := hq.below hb
                          replace hX0 := hX0.below hb
                          replace hB := Below.on' hB hb
                          clear hb
                          clear x0 x1 x2
                          obtain ⟨x0, x1, x2, _, _, _⟩ := id hX0
                          go_wp2_with fail
                          refine (cC _ hq).mono ?_
                          rintro e v2 ⟨rfl, hb⟩
                          replace hX0 := hX0.below hb
                          replace hB := Below.on' hB hb
                          clear hb cC
                          clear x0 x1 x2
                          obtain ⟨x0, x1, x2, _, _, _⟩ := id hX0
                          go_wp2_with fail
                          go_meet
                          exact ⟨rfl, hB⟩
                        | true =>
                          have e_ := f2.out rfl
                          have hsum : IntKind.i64.wrap ((O.length : Int) + (h.length : Int)) = (s.length : Int) := by rw [IntWalk.i64_in _ (by omega)]; omega
                          clear f2 e_
                          obtain ⟨x0, x1, x2, _, _, _⟩ := id hX0
                          go_wp2_with fail
                          refine (pSameMessages_any P1 P2 p1 p2 _ _ _ _ O _ hO1 hP1 hP2).mono ?_
                          rintro e v1 ⟨rfl, hb⟩
                          replace hq := hq.below hb
                          replace hX0 := hX0.below hb
                          replace hB := Below.on' hB hb
                          clear hb
                          clear x0 x1 x2
                          obtain ⟨x0, x1, x2, _, _, _⟩ := id hX0
                          go_wp2_with fail
                          refine (cC _ hq).mono ?_
                          rintro e v2 ⟨rfl, hb⟩
                          replace hX0 := hX0.below hb
                          replace hB := Below.on' hB hb
                          clear hb cC
                          clear x0 x1 x2
                          obtain ⟨x0, x1, x2, _, _, _⟩ := id hX0
                          go_wp2_with fail
                          go_meet
                          exact ⟨rfl, hB⟩
                    case rest =>
                      as_aux_lemma =>
                        obtain ⟨rfl, hI⟩ := hcut
                        clear hB hq hX0 hP1 hP2 f2 hO1 hl cC
                        have hB := hI
                        clear hI
                        go_wp2_with fail
                        refine (DrawWasReceived_any Amo cmo mo _ hl2 hmmo (hSmo.below hB).all).mono ?_
                        rintro e w51 ⟨A1, c1, s, A2, c2, r, A3, c3, h, f, n, rfl, hf, ⟨hl, hm, hO⟩, hb⟩
                        replace hB := Below.on' hB hb
                        clear hb
                        have hq : CM w51 A1 c1 s A2 c2 r A3 c3 h := CM.own hO (by omega) hm.1.big (by omega) hm.2.1.big (by omega) hm.2.2.big
                        clear hO hm hl
                        replace hq := hq.below ((Below.refl _ _).alloc (Nat.le_refl _) (.cells #[.slice A1 s.length c1, .slice A2 r.length c2, .slice A3 h.length c3] 26))
                        replace hB := hB.alloc hB.size (.cells #[.slice A1 s.length c1, .slice A2 r.length c2, .slice A3 h.length c3] 26)
                        have hX0 : B3 w51.heap.size (.slice A1 s.length c1) (.slice A2 r.length c2) (.slice A3 h.length c3) (w51.alloc (.cells #[.slice A1 s.length c1, .slice A2 r.length c2, .slice A3 h.length c3] 26)) := B3.new w51 (.slice A1 s.length c1) (.slice A2 r.length c2) (.slice A3 h.length c3) 26 _ rfl
                        have cU := fun W (q : CM W A1 c1 s A2 c2 r A3 c3 h) => WasReceived_impl A1 c1 s A2 c2 r A3 c3 h f n W q.l1 q.m1 q.p1 q.k1 q.l2 q.m2 q.p2 q.k2 q.l3 q.m3 q.p3 q.k3 (by omega)
                        have cV := fun W (q : CM W A1 c1 s A2 c2 r A3 c3 h) => WasReceived_spec A1 c1 s A2 c2 r A3 c3 h f n W q.l1 q.m1 q.p1 q.k1 q.l2 q.m2 q.p2 q.k2 q.l3 q.m3 q.p3 q.k3 (by omega)
                        generalize wasT s r h f n = t at cU cV
                        obtain ⟨wa, wb⟩ := t
                        dsimp only at cU cV
                        obtain ⟨x0, x1, x2, _, _, _⟩ := id hX0
                        go_wp2_with fail
                        refine (cU _ hq).mono ?_
                        rintro e w52 ⟨rfl, hb⟩
                        replace hq := hq.below hb
                        replace hX0 := hX0.below hb
                        replace hB := Below.on' hB hb
                        clear hb
                        clear x0 x1 x2
                        obtain ⟨x0, x1, x2, _, _, _⟩ := id hX0
                        go_wp2_with fail
                        refine (cV _ hq).mono ?_
                        rintro e w53 ⟨rfl, hb⟩
                        replace hq := hq.below hb
                        replace hX0 := hX0.below hb
                        replace hB := Below.on' hB hb
                        clear hb
                        clear x0 x1 x2
                        clear cU cV hq hX0 hf
                        go_wp2_with fail
                        refine (DrawMessageText_any Amo cmo mo _ hl2 hmmo (hSmo.below hB).all).mono ?_
                        rintro e w54 ⟨m, hmz, rfl, hb⟩
                        replace hB := Below.on' hB hb
                        clear hb
                        replace hB := hB.alloc hB.size (.cells #[.string m.f, .int .i64 m.n, .string m.b] 33)
                        have hM0 : B3 w54.heap.size (.string m.f) (.int .i64 m.n) (.string m.b) (w54.alloc (.cells #[.string m.f, .int .i64 m.n, .string m.b] 33)) := B3.new w54 (.string m.f) (.int .i64 m.n) (.string m.b) 33 _ rfl
                        have cU := fun W (hT : TabW W) => MessageText_impl m W (by omega) (by omega) hT
                        have cV := fun W => MessageText_spec m W (by omega) (by omega)
                        have cI := fun W => IsMessage_impl m W (by omega) (by omega)
                        have f3 : (txtT m).2 = msgB m ∧ (txtT m).1.size ≤ 1048576 ∧ (msgB m = true → (txtT m).1 = msgT m) := by
                          unfold txtT
                          by_cases g : msgB m = true
                          · rw [if_pos g]
                            exact ⟨g.symm, by have := (msg_parts g).2.2.2.2; show (msgT m).size ≤ 1048576; omega, fun _ => rfl⟩
                          · rw [if_neg g]
                            exact ⟨(by simpa using g : msgB m = false).symm, by decide, fun h => absurd h g⟩
                        obtain ⟨f3, hz3, f4⟩ := f3
                        rw [f3] at cU cV
                        generalize (txtT m).1 = tx at cU cV hz3 f4
                        clear f3
                        obtain ⟨mb, hmb⟩ : ∃ mb, msgB m = mb := ⟨_, rfl⟩
                        rw [hmb] at cU cV cI f4
                        replace hmb := Lib.hid hmb
                        replace f4 := Lib.hid f4
                        clear hmz
                        obtain ⟨x0, x1, x2, _, _, _⟩ := id hM0
                        go_wp2_with fail
                        refine (cU _ (hT.below hB)).mono ?_
                        rintro e w55 ⟨rfl, hb⟩
                        replace hM0 := hM0.below hb
                        replace hB := Below.on' hB hb
                        clear hb
                        clear x0 x1 x2
                        obtain ⟨x0, x1, x2, _, _, _⟩ := id hM0
                        go_wp2_with fail
                        refine (cV _).mono ?_
                        rintro e w56 ⟨rfl, hb⟩
                        replace hM0 := hM0.below hb
                        replace hB := Below.on' hB hb
                        clear hb
                        clear x0 x1 x2
                        clear cU cV
                        go_wp2_with fail
                        refine (DrawParseMessage_any Amo cmo mo _ hl2 hmmo (hSmo.below hB).all).mono ?_
                        rintro e w57 ⟨p, hp, rfl, hb⟩
                        replace hM0 := hM0.below hb
                        replace hB := Below.on' hB hb
                        clear hb
                        go_wp2_with fail
                        refine (ParseMessage_impl p (by omega) _ (hS.below hB) (hX.below hB)).mono ?_
                        rintro e w58 ⟨a, ab, rfl, hR1, hb⟩
                        replace hM0 := hM0.below hb
                        replace hB := Below.on' hB hb
                        clear hb
                        replace hM0 := hM0.below ((Below.refl _ _).alloc (Nat.le_refl _) (.cells #[.string a.f, .int .i64 a.n, .string a.b] 33))
                        replace hB := hB.alloc hB.size (.cells #[.string a.f, .int .i64 a.n, .string a.b] 33)
                        have hY1 : B3 w58.heap.size (.string a.f) (.int .i64 a.n) (.string a.b) (w58.alloc (.cells #[.string a.f, .int .i64 a.n, .string a.b] 33)) := B3.new w58 (.string a.f) (.int .i64 a.n) (.string a.b) 33 _ rfl
                        go_wp2_with fail
                        refine (ParseMessage_spec p (by omega) _).mono ?_
                        rintro e w59 ⟨b, bb, rfl, hR2, hb⟩
                        replace hM0 := hM0.below hb
                        replace hY1 := hY1.below hb
                        replace hB := Below.on' hB hb
                        clear hb
                        replace hM0 := hM0.below ((Below.refl _ _).alloc (Nat.le_refl _) (.cells #[.string b.f, .int .i64 b.n, .string b.b] 33))
                        replace hY1 := hY1.below ((Below.refl _ _).alloc (Nat.le_refl _) (.cells #[.string b.f, .int .i64 b.n, .string b.b] 33))
                        replace hB := hB.alloc hB.size (.cells #[.string b.f, .int .i64 b.n, .string b.b] 33)
                        have hY2 : B3 w59.heap.size (.string b.f) (.int .i64 b.n) (.string b.b) (w59.alloc (.cells #[.string b.f, .int .i64 b.n, .string b.b] 33)) := B3.new w59 (.string b.f) (.int .i64 b.n) (.string b.b) 33 _ rfl
                        have hq : a = b ∧ ab = bb := by
                          obtain ⟨a1, a2, a3⟩ := hR1.out
                          obtain ⟨c1, c2, c3⟩ := hR2.out
                          cases ab with
                          | true =>
                            obtain ⟨g1, g2⟩ := a1 rfl
                            obtain ⟨g3, g4⟩ := c3 _ g1 g2
                            exact ⟨g4.symm, g3.symm⟩
                          | false =>
                            cases bb with
                            | true =>
                              obtain ⟨g1, g2⟩ := c1 rfl
                              obtain ⟨g3, _⟩ := a3 _ g1 g2
                              cases g3
                            | false => exact ⟨(a2 rfl).trans (c2 rfl).symm, rfl⟩
                        obtain ⟨rfl, rfl⟩ := hq
                        clear hR1 hR2 hp
                        go_upto_region 46 with fail
                        go_cut [341] from 354 (fun v wx => v = .bool false ∧ Below w.heap.size w wx ∧ B3 w54.heap.size (.string m.f) (.int .i64 m.n) (.string m.b) wx)
                        case first =>
                          as_aux_lemma =>
                            have hneq := neqMsg a.f a.n a.b
                            clear f4
                            obtain ⟨x0, x1, x2, _, _, _⟩ := id hM0
                            obtain ⟨y0, y1, y2, _, _, _⟩ := id hY1
                            obtain ⟨z0, z1, z2, _, _, _⟩ := id hY2
                            have s1 := neqB wb
                            have s2 := neqB wa
                            have s3 := neqB mb
                            have s4 := neqB ab
                            have s5 : (tx.toList != tx.toList) = false := by simp
                            go_wp2_with fail
                            refine (cI _).mono ?_
                            rintro e v1 ⟨rfl, hb⟩
                            have hB2 := Below.on' hB hb
                            have hM2 := hM0.below hb
                            clear hb
                            clear x0 x1 x2 y0 y1 y2 z0 z1 z2
                            go_wp2_with fail
                            go_meet
                            exact ⟨rfl, hB2, hM2⟩
                        case rest =>
                          as_aux_lemma =>
                            obtain ⟨rfl, hI⟩ := hcut
                            clear hB hM0 hY1 hY2 cI
                            obtain ⟨hB, hM0⟩ := hI
                            cases mb with
                            | false =>
                              clear f4
                              go_wp2
                              go_ret
                              exact ⟨rfl, hB⟩
                            | true =>
                              have htx := Lib.hid (f4.out rfl)
                              go_wp2_with fail
                              refine (ParseMessage_impl tx hz3 _ (hS.below hB) (hX.below hB)).mono ?_
                              rintro e v1 ⟨a2, ab2, rfl, hR1, hb⟩
                              have e1 := hR1.out.2.2 m hmb.out (by rw [htx.out])
                              obtain ⟨rfl, rfl⟩ := e1
                              clear hR1 htx f4
                              have hY := B3.new v1 (.string a2.f) (.int .i64 a2.n) (.string a2.b) 33 _ rfl
                              replace hM0 := (hM0.below hb).alloc (.cells #[.string a2.f, .int .i64 a2.n, .string a2.b] 33)
                              have hB2 := Below.on' hB hb
                              have heq := fun W => Msg.eql a2 a2 W
                              have hxe : Msg.eqB a2 a2 = true := Msg.eqB_iff.2 rfl
                              rw [hxe] at heq
                              clear hb hxe
                              obtain ⟨x0, x1, x2, _, _, _⟩ := id hM0
                              obtain ⟨y0, y1, y2, _, _, _⟩ := id hY
                              go_wp2
                              go_ret
                              exact ⟨rfl, hB2.alloc hB2.size _⟩

theorem lay_met (os : Os) (args : Array Value) : laidMetH Tryz.prog Rows.fnRadioRow.laid ((World.laidAll Tryz.prog os Rows.fnRadioRow.laid).forCall (fun _ _ => 0) ⟨#[], args, []⟩).memory := by
  rw [MakeChecks.laidMetH_plain _ _ _ (by kernel_rfl)]
  exact laidMet_laidAll _ (by kernel_rfl) (by kernel_rfl)
set_option maxRecDepth 100000 in
theorem lifted (os : Os) (started : os.Started) (H : Type) (enc : TypeId × Value → H) :
    ReturnsInHanded {} Tryz.checked os 3 .any (fun w args => (Rows.fnRadioSpec.pre enc Tryz.prog Tryz.f3 [] false w args ∧ laidMetH Tryz.prog Rows.fnRadioRow.laid w) ∧ sizedMet enc Tryz.prog Tryz.f3 (OpenSpec.ofChange Rows.fnRadioSpec) false w args) (Rows.fnRadioSpec.post enc Tryz.prog Tryz.f3 false true false false) := by
  refine law_liftedD (C := Tryz.checked) own started (by kernel_rfl) Tryz.func3
    (ChangeSpec.witness_shaped (enc := enc) (C := Tryz.checked) (os := os) (X := fun w _ => laidMetH Tryz.prog Rows.fnRadioRow.laid w) false (World.laidAll Tryz.prog os Rows.fnRadioRow.laid) #[.slice none 0 0, .slice none 0 0] 8 (World.laidAll_os _ _ _) (World.shaped_of_ZipB (by kernel_rfl) (by kernel_rfl)) (by kernel_rfl) (by kernel_rfl) (by kernel_rfl) (lay_met os _))
    laidOut 4 (by kernel_rfl) Tryz.underlying4 (by kernel_rfl) rfl ?_ ?_
  · intro ds hds
    have hn : Tryz.f3.params.size = 2 := by kernel_rfl
    rw [hn] at hds
    match ds, hds with
    | [d0, d1], _ => rfl
  intro W base args ds p hval0 hA0 hlt hnf hL hSh
  have hval : ∀ (j : Nat) t v, Tryz.f3.params[j]? = some t → args[j]? = some v → Value.okWide Tryz.prog W .any base t v := hval0
  have hA : DataW.TrodAll enc Tryz.prog W 0 (fun _ => true) true Tryz.f3.params.toList args.toList ds p := hA0
  clear hval0 hA0
  rw [Tryz.params3] at hA hval
  obtain ⟨v0, vs0, d0, ds0, p0, q0, hargs, rfl, rfl, h0, r0⟩ := trodAll_cons hA
  obtain ⟨v1, vs1, d1, ds1, p1, q1, rfl, rfl, rfl, h1, r1⟩ := trodAll_cons r0
  obtain ⟨rfl, rfl, rfl⟩ := trodAll_nil r1
  obtain rfl : args = #[v0, v1] := by cases args; simp_all
  obtain ⟨Aco, cco, co, rfl, hlco, hmco, hSco⟩ := Byt.openedS (hval 0 22 v0 rfl rfl) h0 (fun x hx => hlt x (by simp [hx])) (fun b o h => hnf b o (by simp [h]))
  obtain ⟨Amo, cmo, mo, rfl, hlmo, hmmo, hSmo⟩ := Byt.openedS (hval 1 22 v1 rfl rfl) h1 (fun x hx => hlt x (by simp [hx])) (fun b o h => hnf b o (by simp [h]))
  exact walk Aco cco co hlco hmco Amo cmo mo hlmo hmmo W hSco hSmo hL hSh

theorem over : Rows.fnRadioRow.holds Tryz.pinned (OpenSpec.ofChange Rows.fnRadioSpec) :=
  OpenClaim.holds_of_wide 3 Tryz.f3 rfl rfl rfl rfl rfl rfl rfl ⟨rfl, rfl, rfl, rfl, rfl⟩ rfl rfl rfl rfl rfl (by kernel_rfl) Tryz.func3 (by kernel_rfl)
    (of_decide_eq_true (by kernel_rfl)) (by unfold Func.isWrapper; first | (rw [if_pos (by decide +kernel)]; kernel_rfl) | (rw [if_neg (by decide +kernel)]; exact ⟨rfl, rfl⟩))
    (fun os started H enc _ => lifted os started H enc)

theorem proved : Rows.FnRadioCardSaid :=
  Claim7.holds_tied_plain_at .later [] [.data, .data, .data, .sentinel, .sentinel] true Rows.fnRadioCard.stood.harness Rows.fnRadioCard.stood.looks
    over (fun _ h => by cases h) (by kernel_rfl) (fun _ h => by cases h) fnRadio_row_tie rfl ⟨rfl, rfl⟩ (by kernel_rfl) rfl
    (fun f fn hf hfn => by
      obtain rfl : f = 3 := Option.some.inj ((show Tryz.prog.funcNamed "loop.example/g01020/laws.FnRadio" = some 3 by kernel_rfl).symm.trans hf) |>.symm
      obtain rfl : fn = Tryz.f3 := (Option.some.inj (Tryz.func3.symm.trans hfn)).symm
      exact ⟨by kernel_rfl, fun j t ht => by
        rw [Tryz.params3] at ht
        have hm : t ∈ [22] := by simpa using Array.mem_of_getElem? ht
        have hall : ([22].all fun u => !Tryz.prog.wantsStandIn u) = true := by kernel_rfl
        exact (show Tryz.prog.wantsStandIn t = false by simpa using List.all_eq_true.1 hall t hm)⟩)
    (by kernel_rfl)
#print axioms proved
end Go.Proofs.YtjmjilkpckbpeaaGreatDoor.lawRadio

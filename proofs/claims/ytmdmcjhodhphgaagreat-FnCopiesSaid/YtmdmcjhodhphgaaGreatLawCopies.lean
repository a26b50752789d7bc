/- FnCopies: for all drawn copies of logs the law returns true. No conditions. -/
import Derived.Test.YtmdmcjhodhphgaaGreatDrwH
import Derived.Test.YtmdmcjhodhphgaaGreatCopQ
import Derived.Test.YtmdmcjhodhphgaaGreatSameEnt
import Derived.Test.YtmdmcjhodhphgaaGreatLogM
import Derived.Test.YtmdmcjhodhphgaaGreatLogB
import Derived.Test.YtmdmcjhodhphgaaGreatRow
import Derived.Deep.Cut
namespace Go.Proofs.YtmdmcjhodhphgaaGreat.lawCopies
open Go.ChangeShapes Go.WideShapes Go.ChangeAt Go.RowKit Go.Joins Go.Proofs.YtmdmcjhodhphgaaGreat

theorem _root_.Go.Proofs.YtmdmcjhodhphgaaGreat.EL.lm {b d : Nat} {W : World} {B : Option Addr} {L : List Ent} (h : EL b W B d L) : LM W B d L := ⟨by have := h.1.1; omega, h.1.2, fun x hx => by have := h.2.1 x hx; omega, h.2.2.all⟩
theorem eqlEnt (x y : Ent) (w : World) : (binOp .eql 38 (.agg #[.int .i64 x.r, .int .i64 x.n, .int .i64 x.m, .string x.t]) (.agg #[.int .i64 y.r, .int .i64 y.n, .int .i64 y.m, .string y.t])).run Tryz.prog w = .ok (.bool (eqE x y)) w := by
  by_cases q0 : x.r = y.r <;> by_cases q1 : x.n = y.n <;> by_cases q2 : x.m = y.m <;> by_cases q3 : x.t.toList = y.t.toList <;> go_simp <;> simp [eqE, q0, q1, q2, q3]
set_option maxRecDepth 100000 in
set_option maxHeartbeats 40000000 in
theorem walk (Aco : Option Addr) (cco : Nat) (co : List Int) (hl1 : co.length ≤ maxLen) (hmco : ∀ x ∈ co, 0 ≤ x ∧ x ≤ 255) (Amo : Option Addr) (cmo : Nat) (mo : List Int) (hl2 : mo.length ≤ maxLen) (hmmo : ∀ x ∈ mo, 0 ≤ x ∧ x ≤ 255) (w : World) (hSco : Sl byE 1 w 0 w.heap.size Aco co) (hSmo : Sl byE 1 w 0 w.heap.size Amo mo) :
    Calls Tryz.prog 3 #[.slice Aco co.length cco, .slice Amo mo.length cmo] w fun e w' => e = .returned (.bool true) ∧ Below w.heap.size w w' := by
  go_enter Tryz.func3, Tryz.ntmps3
  go_wp2_with fail
  refine (big_any Aco Amo cco cmo co mo _ hl1 hl2).mono ?_
  rintro e w1 ⟨v, rfl, hb⟩
  have hB := hb
  clear hb
  cases v with
  | true =>
    go_wp2
    go_ret
    exact ⟨rfl, hB⟩
  | false =>
    go_wp2_with fail
    refine (DrawJoinCopies_any Aco cco co _ hl1 hmco (hSco.below hB).all).mono ?_
    rintro e w2 ⟨B1, d1, a, B2, d2, b, rfl, hE1, hE2, hb⟩
    replace hB := Below.on' hB hb
    clear hb
    have ha : LM w2 B1 d1 a := hE1.lm
    have hb_ : LM w2 B2 d2 b := hE2.lm
    clear hE1 hE2
    have cJi := fun W (h1 : LM W B1 d1 a) (h2 : LM W B2 d2 b) => JoinCopies_impl B1 d1 a B2 d2 b W h1.1 h1.2.2.1 h1.2.2.2 h1.2.1 h2.1 h2.2.2.1 h2.2.2.2 h2.2.1
    have cJs := fun W (h1 : LM W B1 d1 a) (h2 : LM W B2 d2 b) => JoinCopies_spec B1 d1 a B2 d2 b W h1.1 h1.2.2.1 h1.2.2.2 h1.2.1 h2.1 h2.2.2.1 h2.2.2.2 h2.2.1
    have cFi := fun W (h1 : LM W B1 d1 a) (h2 : LM W B2 d2 b) => FirstConflict_impl B1 B2 d1 d2 a b W h1.big.1 h1.big.2 h1.2.2.2 h2.big.1 h2.big.2 h2.2.2.2
    have cFs := fun W (h1 : LM W B1 d1 a) (h2 : LM W B2 d2 b) => FirstConflict_spec B1 B2 d1 d2 a b W h1.big.1 h1.big.2 h1.2.2.2 h2.big.1 h2.big.2 h2.2.2.2
    have cLa := fun W (h1 : LM W B1 d1 a) => IsLog_impl B1 d1 a W h1.big.1 h1.big.2 h1.2.2.2
    have cLb := fun W (h1 : LM W B2 d2 b) => IsLog_impl B2 d2 b W h1.big.1 h1.big.2 h1.2.2.2
    have hJl : (joinR a b).length ≤ 1048576 := joinR_len ha.1 hb_.1
    have hJm : ∀ x ∈ joinR a b, x.t.size ≤ 1048576 := by
      unfold joinR
      split
      · rcases mjR_or a b with h | h | h <;> rw [h]
        · exact ha.2.2.1
        · exact hb_.2.2.1
        · intro x h; cases h
      · intro x h; cases h
    have f1 : joinOk a b = true → confB a b = false := join_not_conf
    have f2 : (logB a && logB b) = true → confB a b = !joinOk a b := fun h => join_conf h
    have f3 : joinOk a b = true → _ := join_law
    have f4 : confB a b = true → _ := conf_law
    generalize joinR a b = J at cJi cJs hJl hJm f3
    generalize joinOk a b = q at cJi cJs f1 f2 f3
    generalize confI a b = ci at cFi cFs f4
    generalize confB a b = cb at cFi cFs f1 f2 f4
    generalize logB a = la at cLa f2
    generalize logB b = lb at cLb f2
    replace f1 := Lib.hid f1
    replace f2 := Lib.hid f2
    replace f3 := Lib.hid f3
    replace f4 := Lib.hid f4
    go_wp2_with fail
    refine (cJi _ ha hb_).mono ?_
    rintro e w3 ⟨J1, j1, rfl, hS3, hc3, hb⟩
    replace ha := ha.below hb
    replace hb_ := hb_.below hb
    replace hB := Below.on' hB hb
    have hJ1 : LM w3 J1 j1 _ := ⟨hJl, hc3, hJm, hS3.all⟩
    clear hS3 hc3
    clear hb
    go_wp2_with fail
    refine (cJs _ ha hb_).mono ?_
    rintro e w4 ⟨J2, j2, rfl, hS4, hc4, hb⟩
    replace ha := ha.below hb
    replace hb_ := hb_.below hb
    replace hJ1 := hJ1.below hb
    replace hB := Below.on' hB hb
    have hJ2 : LM w4 J2 j2 _ := ⟨hJl, hc4, hJm, hS4.all⟩
    clear hS4 hc4
    clear hb
    go_wp2_with fail
    refine (cFi _ ha hb_).mono ?_
    rintro e w5 ⟨rfl, hb⟩
    replace ha := ha.below hb
    replace hb_ := hb_.below hb
    replace hJ1 := hJ1.below hb
    replace hJ2 := hJ2.below hb
    replace hB := Below.on' hB hb
    clear hb
    go_wp2_with fail
    refine (cFs _ ha hb_).mono ?_
    rintro e w6 ⟨rfl, hb⟩
    replace ha := ha.below hb
    replace hb_ := hb_.below hb
    replace hJ1 := hJ1.below hb
    replace hJ2 := hJ2.below hb
    replace hB := Below.on' hB hb
    clear hb
    have hI0 : Below w.heap.size w w6 ∧ LM w6 B1 d1 a ∧ LM w6 B2 d2 b ∧ LM w6 J1 j1 J ∧ LM w6 J2 j2 J := ⟨hB, ha, hb_, hJ1, hJ2⟩
    clear hB ha hb_ hJ1 hJ2 hSco cJi cJs cFi cFs hJm
    go_upto_region 8 with fail
    go_cut [104] from 48 (fun v wx => v = .bool false ∧ Below w.heap.size w wx ∧ LM wx B1 d1 a ∧ LM wx B2 d2 b ∧ LM wx J1 j1 J ∧ LM wx J2 j2 J)
    case first =>
      as_aux_lemma =>
        obtain ⟨hB, ha, hb_, hJ1, hJ2⟩ := hI0
        cases q with
        | false =>
          cases cb with
          | false =>
            clear f1 f2 f3 f4
            go_wp2_with fail
            refine (pSameEntries_any _ _ _ _ _ _ _ _ J _ hJl hJ1.2.2.2 hJ2.2.2.2).mono ?_
            rintro e v1 ⟨rfl, hb⟩
            replace ha := ha.below hb
            replace hb_ := hb_.below hb
            replace hJ1 := hJ1.below hb
            replace hJ2 := hJ2.below hb
            replace hB := Below.on' hB hb
            clear hb
            go_wp2_with fail
            go_meet
            exact ⟨rfl, hB, ha, hb_, hJ1, hJ2⟩
          | true =>
            clear f1 f2 f3 f4
            go_wp2_with fail
            refine (pSameEntries_any _ _ _ _ _ _ _ _ J _ hJl hJ1.2.2.2 hJ2.2.2.2).mono ?_
            rintro e v1 ⟨rfl, hb⟩
            replace ha := ha.below hb
            replace hb_ := hb_.below hb
            replace hJ1 := hJ1.below hb
            replace hJ2 := hJ2.below hb
            replace hB := Below.on' hB hb
            clear hb
            go_wp2_with fail
            go_meet
            exact ⟨rfl, hB, ha, hb_, hJ1, hJ2⟩
        | true =>
          cases cb with
          | false =>
            clear f1 f2 f3 f4
            go_wp2_with fail
            refine (pSameEntries_any _ _ _ _ _ _ _ _ J _ hJl hJ1.2.2.2 hJ2.2.2.2).mono ?_
            rintro e v1 ⟨rfl, hb⟩
            replace ha := ha.below hb
            replace hb_ := hb_.below hb
            replace hJ1 := hJ1.below hb
            replace hJ2 := hJ2.below hb
            replace hB := Below.on' hB hb
            clear hb
            go_wp2_with fail
            go_meet
            exact ⟨rfl, hB, ha, hb_, hJ1, hJ2⟩
          | true =>
            exact absurd (f1.out rfl) (by decide)
    case rest =>
      obtain ⟨rfl, hI⟩ := hcut
      clear hI0 f1
      go_upto_region 10 with fail
      go_cut [115] from 322 (fun v wx => v = .bool false ∧ Below w.heap.size w wx ∧ LM wx B1 d1 a ∧ LM wx B2 d2 b ∧ LM wx J1 j1 J ∧ LM wx J2 j2 J)
      case first =>
        as_aux_lemma =>
          obtain ⟨hB, ha, hb_, hJ1, hJ2⟩ := hI
          go_wp2_with fail
          refine (cLa _ ha).mono ?_
          rintro e v1 ⟨rfl, hb⟩
          replace ha := ha.below hb
          replace hb_ := hb_.below hb
          replace hJ1 := hJ1.below hb
          replace hJ2 := hJ2.below hb
          replace hB := Below.on' hB hb
          clear hb
          cases la with
          | false =>
            clear f2 f3 f4
            go_wp2_with fail
            go_meet
            exact ⟨rfl, hB, ha, hb_, hJ1, hJ2⟩
          | true =>
            go_wp2_with fail
            refine (cLb _ hb_).mono ?_
            rintro e v2 ⟨rfl, hb⟩
            replace ha := ha.below hb
            replace hb_ := hb_.below hb
            replace hJ1 := hJ1.below hb
            replace hJ2 := hJ2.below hb
            replace hB := Below.on' hB hb
            clear hb
            cases lb with
            | false =>
              clear f2 f3 f4
              go_wp2_with fail
              go_meet
              exact ⟨rfl, hB, ha, hb_, hJ1, hJ2⟩
            | true =>
              have g := f2.out rfl
              subst g
              clear f2 f3 f4
              cases q with
              | false =>
                go_wp2_with fail
                go_meet
                exact ⟨rfl, hB, ha, hb_, hJ1, hJ2⟩
              | true =>
                go_wp2_with fail
                go_meet
                exact ⟨rfl, hB, ha, hb_, hJ1, hJ2⟩
      case rest =>
        obtain ⟨rfl, hI⟩ := hcut
        clear f2 cLa cLb
        go_upto_if 116 with fail
        go_cut [4] from 322 (fun v wx => v = .bool false ∧ Below w.heap.size w wx ∧ LM wx B1 d1 a ∧ LM wx B2 d2 b ∧ LM wx J1 j1 J ∧ LM wx J2 j2 J)
        case first =>
          as_aux_lemma =>
            obtain ⟨hB, ha, hb_, hJ1, hJ2⟩ := hI
            cases q with
            | false =>
              clear f3 f4
              go_wp2_with fail
              go_meet
              exact ⟨rfl, hB, ha, hb_, hJ1, hJ2⟩
            | true =>
              obtain ⟨⟨p1, p2⟩, ⟨p3, p4⟩, p5⟩ := f3.out rfl
              have cB1 := fun W (h1 : LM W B1 d1 a) (h2 : LM W J1 j1 J) => IsBeginning_impl B1 J1 d1 j1 a J W h1.big.1 h1.big.2 h1.2.2.2 h2.big.1 h2.big.2 h2.2.2.2 h2.2.1
              have cB2 := fun W (h1 : LM W B2 d2 b) (h2 : LM W J1 j1 J) => IsBeginning_impl B2 J1 d2 j1 b J W h1.big.1 h1.big.2 h1.2.2.2 h2.big.1 h2.big.2 h2.2.2.2 h2.2.1
              rw [p1, p2] at cB1
              rw [p3, p4] at cB2
              have hX := BN.new wc #[.slice B1 a.length d1, .slice B2 b.length d2] 24 _ rfl
              replace p5 := Lib.hid p5
              clear p1 p2 p3 p4 f3 f4
              have O : Obj := .cells #[.slice B1 a.length d1, .slice B2 b.length d2] 24
              replace ha := ha.alloc (.cells #[.slice B1 a.length d1, .slice B2 b.length d2] 24)
              replace hb_ := hb_.alloc (.cells #[.slice B1 a.length d1, .slice B2 b.length d2] 24)
              replace hJ1 := hJ1.alloc (.cells #[.slice B1 a.length d1, .slice B2 b.length d2] 24)
              replace hJ2 := hJ2.alloc (.cells #[.slice B1 a.length d1, .slice B2 b.length d2] 24)
              replace hB := Below.lay hB (.cells #[.slice B1 a.length d1, .slice B2 b.length d2] 24)
              clear O
              have z0 := (hX 0 _ rfl).1
              go_wp2_with fail
              refine wp_loop_rounds 3 ?_
              rw [rounds_succ]
              go_wp2_with fail
              refine (cB1 _ ha hJ1).mono ?_
              rintro e v1 ⟨rfl, hb⟩
              replace ha := ha.below hb
              replace hb_ := hb_.below hb
              replace hJ1 := hJ1.below hb
              replace hJ2 := hJ2.below hb
              replace hB := Below.on' hB hb
              replace hX := hX.below (by simp) hb
              clear hb z0
              have z1 := (hX 1 _ rfl).1
              go_wp2_with fail
              rw [rounds_succ]
              go_wp2_with fail
              refine (cB2 _ hb_ hJ1).mono ?_
              rintro e v2 ⟨rfl, hb⟩
              replace ha := ha.below hb
              replace hb_ := hb_.below hb
              replace hJ1 := hJ1.below hb
              replace hJ2 := hJ2.below hb
              replace hB := Below.on' hB hb
              clear hb z1 hX
              clear cB1 cB2
              by_cases e1 : J.length = a.length
              · have e2 : ((J.length : Int) != (a.length : Int)) = false := by rw [e1]; simp
                clear p5 e1
                go_wp2_with fail
                rw [rounds_succ]
                go_wp2_with fail
                go_meet
                exact ⟨rfl, hB, ha, hb_, hJ1, hJ2⟩
              · have e2 : ((J.length : Int) != (a.length : Int)) = true := by simp; omega
                have e3 : ((J.length : Int) != (b.length : Int)) = false := by rw [p5.out.resolve_left e1]; simp
                clear p5 e1
                go_wp2_with fail
                rw [rounds_succ]
                go_wp2_with fail
                go_meet
                exact ⟨rfl, hB, ha, hb_, hJ1, hJ2⟩
        case rest =>
          obtain ⟨rfl, hI⟩ := hcut
          clear f3
          go_upto_if 150 with fail
          go_cut [4] from 322 (fun v wx => v = .bool false ∧ Below w.heap.size w wx)
          case first =>
            as_aux_lemma =>
              obtain ⟨hB, ha, hb_, hJ1, hJ2⟩ := hI
              cases cb with
              | false =>
                clear f4
                go_wp2_with fail
                go_meet
                exact ⟨rfl, hB⟩
              | true =>
                obtain ⟨k, x, y, rfl, hx, hy, he, ⟨g1, g2⟩, g3⟩ := f4.out rfl
                have cC1 := fun W (h1 : LM W B1 d1 a) => CutLog_impl B1 d1 a k W h1.1 h1.2.2.1 h1.2.2.2 h1.2.1
                have cC2 := fun W (h1 : LM W B2 d2 b) => CutLog_impl B2 d2 b k W h1.1 h1.2.2.1 h1.2.2.2 h1.2.1
                rw [g1] at cC1
                rw [g2, ← g3] at cC2
                have hRl : (cutR a k).length ≤ 1048576 := Nat.le_trans (cutR_len a k) ha.1
                generalize cutR a k = R at cC1 cC2 hRl
                clear g1 g2 g3 f4 hJ1 hJ2
                go_wp2_with fail
                refine (cC1 _ ha).mono ?_
                rintro e v1 ⟨Q1, q1, rfl, hQ1, _, hb⟩
                replace ha := ha.below hb
                replace hb_ := hb_.below hb
                replace hB := Below.on' hB hb
                clear hb
                go_wp2_with fail
                refine (cC2 _ hb_).mono ?_
                rintro e v2 ⟨Q2, q2, rfl, hQ2, _, hb⟩
                replace ha := ha.below hb
                replace hb_ := hb_.below hb
                replace hB := Below.on' hB hb
                replace hQ1 := hQ1.below hb
                clear hb cC1 cC2
                obtain ⟨pa, oa, rfl, _, _, _, hf⟩ := ha.2.2.2.at_ hx
                have c0 : v2.cell? ⟨pa, oa + k * 4, none⟩ = some (.int .i64 x.r) := (hf 0 _ rfl).1
                have c1 : v2.cell? ⟨pa, oa + k * 4 + 1, none⟩ = some (.int .i64 x.n) := (hf 1 _ rfl).1
                have c2 : v2.cell? ⟨pa, oa + k * 4 + 2, none⟩ = some (.int .i64 x.m) := (hf 2 _ rfl).1
                have c3 : v2.cell? ⟨pa, oa + k * 4 + 3, none⟩ = some (.string x.t) := (hf 3 _ rfl).1
                clear hf
                obtain ⟨pc, oc, rfl, _, _, _, hf⟩ := hb_.2.2.2.at_ hy
                have b0 : v2.cell? ⟨pc, oc + k * 4, none⟩ = some (.int .i64 y.r) := (hf 0 _ rfl).1
                have b1 : v2.cell? ⟨pc, oc + k * 4 + 1, none⟩ = some (.int .i64 y.n) := (hf 1 _ rfl).1
                have b2 : v2.cell? ⟨pc, oc + k * 4 + 2, none⟩ = some (.int .i64 y.m) := (hf 2 _ rfl).1
                have b3 : v2.cell? ⟨pc, oc + k * 4 + 3, none⟩ = some (.string y.t) := (hf 3 _ rfl).1
                clear hf
                have hcls : ∀ w', Below v2.heap.size v2 w' → w'.cell? ⟨pa, oa + k * 4, none⟩ = some (.int .i64 x.r) ∧ w'.cell? ⟨pa, oa + k * 4 + 1, none⟩ = some (.int .i64 x.n) ∧ w'.cell? ⟨pa, oa + k * 4 + 2, none⟩ = some (.int .i64 x.m) ∧ w'.cell? ⟨pa, oa + k * 4 + 3, none⟩ = some (.string x.t) ∧ w'.cell? ⟨pc, oc + k * 4, none⟩ = some (.int .i64 y.r) ∧ w'.cell? ⟨pc, oc + k * 4 + 1, none⟩ = some (.int .i64 y.n) ∧ w'.cell? ⟨pc, oc + k * 4 + 2, none⟩ = some (.int .i64 y.m) ∧ w'.cell? ⟨pc, oc + k * 4 + 3, none⟩ = some (.string y.t) :=
                  fun w' h => ⟨keep h c0, keep h c1, keep h c2, keep h c3, keep h b0, keep h b1, keep h b2, keep h b3⟩
                clear c0 c1 c2 c3 b0 b1 b2 b3
                have hk1 : (k : Int) < a.length := by have := (List.getElem?_eq_some_iff.1 hx).1; omega
                have hk2 : (k : Int) < b.length := by have := (List.getElem?_eq_some_iff.1 hy).1; omega
                have hP : ∀ W, Below v2.heap.size v2 W → Calls Tryz.prog 10 #[.slice Q1 R.length q1, .slice Q2 R.length q2] W (RV W (.bool true)) := fun W h => pSameEntries_any _ _ _ _ _ _ _ _ R W hRl (hQ1.below h) (hQ2.below h)
                have heq := eqlEnt x y
                rw [he] at heq
                clear hx hy he ha hb_ hQ1 hQ2
                go_upto_region 25 with fail
                refine wp_region_quiet (C := fun w' => Below v2.heap.size v2 w') (by kernel_rfl) (by kernel_rfl) ((Below.refl _ _).drew) ?_
                dsimp only [Array.toList]
                iterate 23
                  with_reducible refine wpQuiet_step (fun K hK => ?_)
                  go_simp
                  first
                    | (refine hK _ ?_; clear hK K)
                    | (apply Exists.intro
                       refine ⟨fun w' hw' => ?_, hK _ ?_⟩
                       · obtain ⟨z0, z1, z2, z3, z4, z5, z6, z7⟩ := hcls w' hw'
                         go_simp
                         first
                           | rfl
                           | (refine (hP w' hw').mono ?_; rintro e w1 ⟨rfl, hb⟩; exact ⟨rfl, hw'.trans (hb.mono hw'.size)⟩)
                       clear hK K)
                refine wpQuiet_nil ?_
                intro W2 hW2
                replace hB := Below.on' hB hW2
                clear hP hcls hW2 heq
                go_wp2_with fail
                go_meet
                exact ⟨rfl, hB⟩
          case rest =>
            obtain ⟨rfl, hI⟩ := hcut
            clear f4 hJl
            have hB := hI
            clear hI
            go_wp2_with fail
            refine (DrawIsBeginning_any Amo cmo mo _ hl2 hmmo (hSmo.below hB).all).mono ?_
            rintro e w21 ⟨B3, d3, x, B4, d4, y, rfl, hE1, hE2, hb⟩
            replace hB := Below.on' hB hb
            clear hb
            have hx : LM w21 B3 d3 x := hE1.lm
            have hy : LM w21 B4 d4 y := hE2.lm
            clear hE1 hE2
            go_wp2_with fail
            refine (IsBeginning_impl B3 B4 d3 d4 x y _ hx.big.1 hx.big.2 hx.2.2.2 hy.big.1 hy.big.2 hy.2.2.2 hy.2.1).mono ?_
            rintro e w22 ⟨rfl, hb⟩
            replace hx := hx.below hb
            replace hy := hy.below hb
            replace hB := Below.on' hB hb
            clear hb
            go_wp2_with fail
            refine (IsBeginning_spec B3 B4 d3 d4 x y _ hx.big.1 hx.big.2 hx.2.2.2 hy.big.1 hy.big.2 hy.2.2.2).mono ?_
            rintro e w23 ⟨rfl, hb⟩
            replace hx := hx.below hb
            replace hy := hy.below hb
            replace hB := Below.on' hB hb
            clear hb
            clear hx hy
            generalize (twoB x y && begF x y) = i1
            generalize twoB x y = i2
            go_wp2_with fail
            refine (DrawHistoryOf_any Amo cmo mo _ hl2 hmmo (hSmo.below hB).all).mono ?_
            rintro e w24 ⟨B5, d5, u, B6, d6, v, rfl, hE1, hE2, hb⟩
            replace hB := Below.on' hB hb
            clear hb
            have hu : LM w24 B5 d5 u := hE1.lm
            have hv : LM w24 B6 d6 v := hE2.lm
            clear hE1 hE2
            have cHi := fun W (h1 : LM W B5 d5 u) (h2 : LM W B6 d6 v) => HistoryOf_impl B5 d5 u B6 d6 v W h1.1 h1.2.2.1 h1.2.2.2 h1.2.1 h2.1 h2.2.2.1 h2.2.2.2 h2.2.1
            have cHs := fun W (h1 : LM W B5 d5 u) (h2 : LM W B6 d6 v) => HistoryOf_spec B5 d5 u B6 d6 v W h1.1 h1.2.2.1 h1.2.2.2 h1.2.1 h2.1 h2.2.2.1 h2.2.2.2 h2.2.1
            have f5 : hofOk u v = true → _ := hof_law
            have hHl := hofR_len u v
            have hHm : ∀ x ∈ hofR u v, x.t.size ≤ 1048576 := by
              unfold hofR
              split
              · intro x h
                rcases (mrg_mem _ u v (Nat.le_refl _)).1 h with h | h
                · exact hu.2.2.1 x h
                · exact hv.2.2.1 x h
              · intro x h; cases h
            generalize hofR u v = H at cHi cHs f5 hHl hHm
            generalize hofOk u v = hk at cHi cHs f5
            replace f5 := Lib.hid f5
            go_wp2_with fail
            refine (cHi _ hu hv).mono ?_
            rintro e w25 ⟨H1, h1, rfl, hS5, hc5, hb⟩
            replace hu := hu.below hb
            replace hv := hv.below hb
            replace hB := Below.on' hB hb
            have hH1 : LM w25 H1 h1 _ := ⟨hHl, hc5, hHm, hS5.all⟩
            clear hS5 hc5
            clear hb
            go_wp2_with fail
            refine (cHs _ hu hv).mono ?_
            rintro e w26 ⟨H2, h2, rfl, hS6, hc6, hb⟩
            replace hu := hu.below hb
            replace hv := hv.below hb
            replace hH1 := hH1.below hb
            replace hB := Below.on' hB hb
            have hH2 : LM w26 H2 h2 _ := ⟨hHl, hc6, hHm, hS6.all⟩
            clear hS6 hc6
            clear hb
            have hul := hu.1
            have hvl := hv.1
            clear hu hv
            clear cHi cHs hHm
            go_wp2_with fail
            refine (DrawActiveRoom_any Amo cmo mo _ hl2 hmmo (hSmo.below hB).all).mono ?_
            rintro e w27 ⟨B7, d7, g, mi, rfl, hE1, hb⟩
            replace hH1 := hH1.below hb
            replace hH2 := hH2.below hb
            replace hB := Below.on' hB hb
            clear hb
            have hg : LM w27 B7 d7 g := hE1.lm
            clear hE1
            have cAi := fun W (h1 : LM W B7 d7 g) => ActiveRoom_impl B7 d7 g mi W h1.1 h1.2.2.1 h1.2.2.2 h1.2.1
            have cAs := fun W (h1 : LM W B7 d7 g) => ActiveRoom_spec B7 d7 g mi W h1.1 h1.2.2.1 h1.2.2.2 h1.2.1
            have f6 : actB g mi = true → _ := act_law
            generalize actI g mi = ai at cAi cAs f6
            generalize actB g mi = ak at cAi cAs f6
            replace f6 := Lib.hid f6
            go_wp2_with fail
            refine (cAi _ hg).mono ?_
            rintro e w28 ⟨rfl, hb⟩
            replace hH1 := hH1.below hb
            replace hH2 := hH2.below hb
            replace hg := hg.below hb
            replace hB := Below.on' hB hb
            clear hb
            go_wp2_with fail
            refine (cAs _ hg).mono ?_
            rintro e w29 ⟨rfl, hb⟩
            replace hH1 := hH1.below hb
            replace hH2 := hH2.below hb
            replace hg := hg.below hb
            replace hB := Below.on' hB hb
            clear hb
            clear hg
            clear cAi cAs
            go_wp2_with fail
            refine (DrawPlaceOf_any Amo cmo mo _ hl2 hmmo (hSmo.below hB).all).mono ?_
            rintro e w30 ⟨B8, d8, z, rr, nn, rfl, hE1, hb⟩
            replace hH1 := hH1.below hb
            replace hH2 := hH2.below hb
            replace hB := Below.on' hB hb
            clear hb
            have hz : LM w30 B8 d8 z := hE1.lm
            clear hE1
            have cPi := fun W (h1 : LM W B8 d8 z) => PlaceOf_impl B8 d8 z rr nn W h1.1 h1.2.2.1 h1.2.2.2 h1.2.1
            have cPs := fun W (h1 : LM W B8 d8 z) => PlaceOf_spec B8 d8 z rr nn W h1.1 h1.2.2.1 h1.2.2.2 h1.2.1
            generalize plaI z rr nn = pi at cPi cPs
            generalize plaB z rr nn = pk at cPi cPs
            go_wp2_with fail
            refine (cPi _ hz).mono ?_
            rintro e w31 ⟨rfl, hb⟩
            replace hH1 := hH1.below hb
            replace hH2 := hH2.below hb
            replace hz := hz.below hb
            replace hB := Below.on' hB hb
            clear hb
            go_wp2_with fail
            refine (cPs _ hz).mono ?_
            rintro e w32 ⟨rfl, hb⟩
            replace hH1 := hH1.below hb
            replace hH2 := hH2.below hb
            replace hz := hz.below hb
            replace hB := Below.on' hB hb
            clear hb
            clear hz
            clear cPi cPs hSmo
            go_upto_region 39 with fail
            go_cut [295] from 48 (fun v wx => v = .bool false ∧ Below w.heap.size w wx ∧ LM wx H1 h1 H)
            case first =>
              as_aux_lemma =>
                go_wp2_with fail
                refine (pSameEntries_any _ _ _ _ _ _ _ _ H _ hHl hH1.2.2.2 hH2.2.2.2).mono ?_
                rintro e v1 ⟨rfl, hb⟩
                replace hH1 := hH1.below hb
                replace hB := Below.on' hB hb
                clear hb
                go_wp2_with fail
                go_meet
                exact ⟨rfl, hB, hH1⟩
            case rest =>
              obtain ⟨rfl, hI⟩ := hcut
              clear hB hH1 hH2
              go_upto_region 41 with fail
              go_cut [311] from 322 (fun v wx => v = .bool false ∧ Below w.heap.size w wx)
              case first =>
                as_aux_lemma =>
                  obtain ⟨hB, hH1⟩ := hI
                  cases hk with
                  | false =>
                    clear f5 f6
                    go_wp2_with fail
                    go_meet
                    exact ⟨rfl, hB⟩
                  | true =>
                    obtain ⟨g1, g2⟩ := f5.out rfl
                    have cI := fun W (h1' : LM W H1 h1 H) => IsHistory_impl H1 h1 H W h1'.1 h1'.2.2.1 h1'.2.2.2 h1'.2.1
                    rw [g1] at cI
                    have e1 : ((H.length : Int) != (u.length : Int) + (v.length : Int)) = false := by rw [g2]; simp
                    clear g1 g2 f5 f6
                    go_wp2_with fail
                    refine (cI _ hH1).mono ?_
                    rintro e v1 ⟨rfl, hb⟩
                    replace hB := Below.on' hB hb
                    clear hb cI hH1
                    go_wp2_with fail
                    go_meet
                    exact ⟨rfl, hB⟩
              case rest =>
                obtain ⟨rfl, hI⟩ := hcut
                clear f5 hHl
                cases ak with
                | false =>
                  clear f6
                  go_wp2
                  go_ret
                  exact ⟨rfl, hI⟩
                | true =>
                  rcases f6.out rfl with rfl | rfl
                  · clear f6
                    go_wp2
                    go_ret
                    exact ⟨rfl, hI⟩
                  · clear f6
                    go_wp2
                    go_ret
                    exact ⟨rfl, hI⟩

set_option maxRecDepth 100000 in
theorem lifted (os : Os) (started : os.Started) (H : Type) (enc : TypeId × Value → H) :
    ReturnsInHanded {} Tryz.checked os 3 .any (Rows.fnCopiesSpec.pre6 enc Tryz.prog Tryz.f3 Rows.fnCopiesRow.domain false) (Rows.fnCopiesSpec.post enc Tryz.prog Tryz.f3 false true false false) := by
  refine law_lifted (C := Tryz.checked) own started (by kernel_rfl) Tryz.func3
    (ChangeSpec.witness6 (enc := enc) (C := Tryz.checked) false ⟨#[], #[.slice none 0 0, .slice none 0 0], []⟩ 8 (by kernel_rfl) (by kernel_rfl) (by kernel_rfl) (by kernel_rfl))
    laidOut 4 (by kernel_rfl) Tryz.underlying4 (by kernel_rfl) rfl ?_ ?_
  · intro ds hds
    have hn : Tryz.f3.params.size = 2 := by kernel_rfl
    rw [hn] at hds
    match ds, hds with
    | [d0, d1], _ => rfl
  intro W base args ds p hval0 hA0 hlt hnf hsh
  have hval : ∀ (j : Nat) t v, Tryz.f3.params[j]? = some t → args[j]? = some v → Value.okWide Tryz.prog W .any base t v := hval0
  have hA : DataW.TrodAll enc Tryz.prog W 0 (fun _ => true) true Tryz.f3.params.toList args.toList ds p := hA0
  clear hval0 hA0
  rw [Tryz.params3] at hA hval
  obtain ⟨v0, vs0, d0, ds0, p0, q0, hargs, rfl, rfl, h0, r0⟩ := trodAll_cons hA
  obtain ⟨v1, vs1, d1, ds1, p1, q1, rfl, rfl, rfl, h1, r1⟩ := trodAll_cons r0
  obtain ⟨rfl, rfl, rfl⟩ := trodAll_nil r1
  obtain rfl : args = #[v0, v1] := by cases args; simp_all
  obtain ⟨Aco, cco, co, rfl, hlco, hmco, hSco⟩ := Byt.openedS (hval 0 22 v0 rfl rfl) h0 (fun x hx => hlt x (by simp [hx])) (fun b o h => hnf b o (by simp [h]))
  obtain ⟨Amo, cmo, mo, rfl, hlmo, hmmo, hSmo⟩ := Byt.openedS (hval 1 22 v1 rfl rfl) h1 (fun x hx => hlt x (by simp [hx])) (fun b o h => hnf b o (by simp [h]))
  exact walk Aco cco co hlco hmco Amo cmo mo hlmo hmmo W hSco hSmo

theorem over : Rows.fnCopiesRow.holds Tryz.pinned (OpenSpec.ofChange Rows.fnCopiesSpec) :=
  OpenClaim.holds_of_wide 3 Tryz.f3 rfl rfl rfl rfl rfl rfl rfl ⟨rfl, rfl, rfl, rfl, rfl⟩ rfl rfl rfl rfl rfl (by kernel_rfl) Tryz.func3 (by kernel_rfl)
    (of_decide_eq_true (by kernel_rfl)) (by unfold Func.isWrapper; first | (rw [if_pos (by decide +kernel)]; kernel_rfl) | (rw [if_neg (by decide +kernel)]; exact ⟨rfl, rfl⟩))
    (fun os started H enc _ => lifted os started H enc)

theorem proved : Rows.FnCopiesSaid :=
  over
#print axioms proved
end Go.Proofs.YtmdmcjhodhphgaaGreat.lawCopies

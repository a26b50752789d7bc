/- FnLogs: for all drawn logs the law returns true. No conditions beyond the card's own: the listed variables are those that the program's text lays. -/
import Derived.Test.YtmdmcjhodhphgaaGreatDoorDrwI
import Derived.Test.YtmdmcjhodhphgaaGreatDoorLogP
import Derived.Test.YtmdmcjhodhphgaaGreatDoorSum
import Derived.Test.YtmdmcjhodhphgaaGreatDoorSameEnt
import Derived.Test.YtmdmcjhodhphgaaGreatDoorSameInts
import Derived.Test.YtmdmcjhodhphgaaGreatDoorLogM
import Derived.Test.YtmdmcjhodhphgaaGreatDoorLogB
import Derived.Test.YtmdmcjhodhphgaaGreatDoorSaid
import Derived.Test.YtmdmcjhodhphgaaGreatDoorArg
import Derived.Test.YtmdmcjhodhphgaaGreatDoorTie
import Derived.Test.YtmdmcjhodhphgaaGreatDoorCards
import Derived.SevenTiedAt
import Derived.Lay
import Derived.Deep.Cut
namespace Go.Proofs.YtmdmcjhodhphgaaGreatDoor.lawLogs
open Go.ChangeShapes Go.WideShapes Go.ChangeAt Go.RowKit Go.Joins Go.Proofs.YtmdmcjhodhphgaaGreatDoor

theorem _root_.Go.Proofs.YtmdmcjhodhphgaaGreatDoor.EL.lm {b d : Nat} {W : World} {B : Option Addr} {L : List Ent} (h : EL b W B d L) : LM W B d L := ⟨by have := h.1.1; omega, h.1.2, fun x hx => by have := h.2.1 x hx; omega, h.2.2.all⟩
set_option maxRecDepth 100000 in
set_option maxHeartbeats 40000000 in
theorem walk (Aco : Option Addr) (cco : Nat) (co : List Int) (hl1 : co.length ≤ maxLen) (hmco : ∀ x ∈ co, 0 ≤ x ∧ x ≤ 255) (Amo : Option Addr) (cmo : Nat) (mo : List Int) (hl2 : mo.length ≤ maxLen) (hmmo : ∀ x ∈ mo, 0 ≤ x ∧ x ≤ 255) (w : World) (hSco : Sl byE 1 w 0 w.heap.size Aco co) (hSmo : Sl byE 1 w 0 w.heap.size Amo mo) (hL : laidMetH Tryz.prog Rows.fnLogsRow.laid w) (hSh : w.ShapedOpen Tryz.prog) :
    Calls Tryz.prog 3 #[.slice Aco co.length cco, .slice Amo mo.length cmo] w fun e w' => e = .returned (.bool true) ∧ Below w.heap.size w w' := by
  have hS : Said w := by
    have h : laidMet Tryz.prog Rows.fnLogsRow.laid w := by rw [MakeChecks.laidMetH_plain _ _ _ (by kernel_rfl)] at hL; exact hL
    exact said_at h.tail.tail h.tail.tail.tail.tail
  have hX : MaxL w := maxL_of hSh
  have hT : TabW w := hS.tab
  clear hL hSh
  go_enter Tryz.func3, Tryz.ntmps3
  go_wp2_with fail
  refine (big_any Aco Amo cco cmo co mo _ hl1 hl2).mono ?_
  rintro e w1 ⟨v, rfl, hb⟩
  have hB := hb
  clear hb
  cases v with
  | true =>
    go_wp2
    go_ret
    exact ⟨rfl, hB⟩
  | false =>
    go_wp2_with fail
    refine (DrawAppendEntry_any Aco cco co _ hl1 hmco (hSco.below hB).all).mono ?_
    rintro e w2 ⟨B1, d1, l, r, m, t, rfl, ht, hE1, hb⟩
    replace hB := Below.on' hB hb
    clear hb
    have hl : LM w2 B1 d1 l := hE1.lm
    have ht' : t.size ≤ 1048576 := by omega
    clear hE1
    have cAi := fun W (h1 : LM W B1 d1 l) => AppendEntry_impl B1 d1 l r m t W h1.1 h1.2.2.1 h1.2.2.2 h1.2.1 ht'
    have cAs := fun W (h1 : LM W B1 d1 l) => AppendEntry_spec B1 d1 l r m t W h1.1 h1.2.2.1 h1.2.2.2 h1.2.1 ht'
    have hAl := appR_len l r m t
    have hAm : ∀ x ∈ appR l r m t, x.t.size ≤ 1048576 := by
      unfold appR lgAppR appL
      split
      · split
        · intro x hx
          rcases List.mem_append.1 hx with h | h
          · exact hl.2.2.1 x h
          · rw [List.mem_singleton.1 h]; exact ht'
        · intro x h; cases h
      · intro x h; cases h
    have f1 : appOk l r m t = true → appR l r m t = appL l r m t ∧ logB (appR l r m t) = true ∧ cutOk (appR l r m t) l.length = true ∧ cutR (appR l r m t) l.length = l := fun h => by
      obtain ⟨e1, _, e3, e4, e5⟩ := app_law h
      rw [e1]
      exact ⟨rfl, e3, e4, e5⟩
    generalize appR l r m t = AP at cAi cAs hAl hAm f1
    generalize appOk l r m t = q at cAi cAs f1
    replace f1 := Lib.hid f1
    go_wp2_with fail
    refine (cAi _ hl).mono ?_
    rintro e w3 ⟨A1, a1, rfl, hS3, hc3, hb⟩
    replace hl := hl.below hb
    replace hB := Below.on' hB hb
    have hA1 : LM w3 A1 a1 _ := ⟨hAl, hc3, hAm, hS3.all⟩
    clear hS3 hc3
    clear hb
    go_wp2_with fail
    refine (cAs _ hl).mono ?_
    rintro e w4 ⟨A2, a2, rfl, hS4, hc4, hb⟩
    replace hl := hl.below hb
    replace hA1 := hA1.below hb
    replace hB := Below.on' hB hb
    have hA2 : LM w4 A2 a2 _ := ⟨hAl, hc4, hAm, hS4.all⟩
    clear hS4 hc4
    clear hb
    have hI0 : Below w.heap.size w w4 ∧ LM w4 B1 d1 l ∧ LM w4 A1 a1 AP ∧ LM w4 A2 a2 AP := ⟨hB, hl, hA1, hA2⟩
    clear hB hl hA1 hA2 cAi cAs hAm
    go_upto_region 6 with fail
    go_cut [80] from 46 (fun v wx => v = .bool false ∧ Below w.heap.size w wx ∧ LM wx B1 d1 l ∧ LM wx A1 a1 AP ∧ LM wx A2 a2 AP)
    case first =>
      as_aux_lemma =>
        obtain ⟨hB, hl, hA1, hA2⟩ := hI0
        clear f1
        go_wp2_with fail
        refine (pSameEntries_any _ _ _ _ _ _ _ _ AP _ hAl hA1.2.2.2 hA2.2.2.2).mono ?_
        rintro e v1 ⟨rfl, hb⟩
        replace hl := hl.below hb
        replace hA1 := hA1.below hb
        replace hA2 := hA2.below hb
        replace hB := Below.on' hB hb
        clear hb
        go_wp2_with fail
        go_meet
        exact ⟨rfl, hB, hl, hA1, hA2⟩
    case rest =>
      obtain ⟨rfl, hI⟩ := hcut
      clear hI0
      go_upto_if 81 with fail
      go_cut [4] from 295 (fun v wx => v = .bool false ∧ Below w.heap.size w wx)
      case first =>
        as_aux_lemma =>
          obtain ⟨hB, hl, hA1, hA2⟩ := hI
          cases q with
          | false =>
            clear f1
            go_wp2_with fail
            go_meet
            exact ⟨rfl, hB⟩
          | true =>
            obtain ⟨e1, e2, e3, e4⟩ := f1.out rfl
            have cC := fun W (h1 : LM W A1 a1 AP) => CutLog_impl A1 a1 AP l.length W h1.1 h1.2.2.1 h1.2.2.2 h1.2.1
            rw [e3, e4] at cC
            have cI := fun W (h1 : LM W A1 a1 AP) => IsLog_impl A1 a1 AP W h1.big.1 h1.big.2 h1.2.2.2
            rw [e2] at cI
            have hx : AP[l.length]? = some (⟨r, (l.length : Int) + 1, m, t⟩ : Ent) := by rw [e1]; simp [appL]
            have hlt : (l.length : Int) < AP.length := by rw [e1]; simp [appL]; omega
            have hll := hl.1
            have hneq := neqEnt r ((l.length : Int) + 1) m t
            clear e1 e2 e3 e4 f1
            go_wp2_with fail
            refine (cC _ hA1).mono ?_
            rintro e v1 ⟨Q1, q1, rfl, hQ1, _, hb⟩
            replace hl := hl.below hb
            replace hA1 := hA1.below hb
            replace hA2 := hA2.below hb
            replace hB := Below.on' hB hb
            clear hb
            clear cC
            go_wp2_with fail
            refine (pSameEntries_any _ _ _ _ _ _ _ _ l _ hll hQ1 hl.2.2.2).mono ?_
            rintro e v2 ⟨rfl, hb⟩
            replace hl := hl.below hb
            replace hA1 := hA1.below hb
            replace hA2 := hA2.below hb
            replace hB := Below.on' hB hb
            clear hb
            clear hQ1
            go_wp2_with fail
            refine (cI _ hA1).mono ?_
            rintro e v3 ⟨rfl, hb⟩
            replace hl := hl.below hb
            replace hA1 := hA1.below hb
            replace hA2 := hA2.below hb
            replace hB := Below.on' hB hb
            clear hb
            clear cI
            obtain ⟨pa, oa, rfl, _, _, _, hf⟩ := hA2.2.2.2.at_ hx
            have c0 : v3.cell? ⟨pa, oa + l.length * 4, none⟩ = some (.int .i64 r) := (hf 0 _ rfl).1
            have c1 : v3.cell? ⟨pa, oa + l.length * 4 + 1, none⟩ = some (.int .i64 ((l.length : Int) + 1)) := (hf 1 _ rfl).1
            have c2 : v3.cell? ⟨pa, oa + l.length * 4 + 2, none⟩ = some (.int .i64 m) := (hf 2 _ rfl).1
            have c3 : v3.cell? ⟨pa, oa + l.length * 4 + 3, none⟩ = some (.string t) := (hf 3 _ rfl).1
            clear hf hx
            go_wp2_with fail
            go_meet
            exact ⟨rfl, hB⟩
      case rest =>
        obtain ⟨rfl, hI⟩ := hcut
        clear f1 hAl
        have hB := hI
        clear hI
        go_wp2_with fail
        refine (DrawCancelEntry_any Amo cmo mo _ hl2 hmmo (hSmo.below hB).all).mono ?_
        rintro e w21 ⟨B2, d2, u, am, n, rfl, hE1, hb⟩
        replace hB := Below.on' hB hb
        clear hb
        have hu : LM w21 B2 d2 u := hE1.lm
        clear hE1
        have cKi := fun W (h1 : LM W B2 d2 u) (hS : Said W) => CancelEntry_impl B2 d2 u am n W h1.1 h1.2.2.1 h1.2.2.2 h1.2.1 hS
        have cKs := fun W (h1 : LM W B2 d2 u) => CancelEntry_spec B2 d2 u am n W h1.1 h1.2.2.1 h1.2.2.2 h1.2.1
        have hKl := canR_len u am n
        have hKm : ∀ x ∈ canR u am n, x.t.size ≤ 1048576 := by
          unfold canR lgAppR
          split
          · split
            · rename_i h
              exact fun x hx => by have := log_small h x hx; omega
            · intro x h; cases h
          · intro x h; cases h
        have f2 : canOk u am n = true → _ := can_law
        generalize canR u am n = CR at cKi cKs hKl hKm f2
        generalize canOk u am n = k at cKi cKs f2
        replace f2 := Lib.hid f2
        go_wp2_with fail
        refine (cKi _ hu (hS.below hB)).mono ?_
        rintro e w22 ⟨C1, c1, rfl, hS5, hc5, hb⟩
        replace hu := hu.below hb
        replace hB := Below.on' hB hb
        have hC1 : LM w22 C1 c1 _ := ⟨hKl, hc5, hKm, hS5.all⟩
        clear hS5 hc5
        clear hb
        go_wp2_with fail
        refine (cKs _ hu).mono ?_
        rintro e w23 ⟨C2, c2, rfl, hS6, hc6, hb⟩
        replace hu := hu.below hb
        replace hC1 := hC1.below hb
        replace hB := Below.on' hB hb
        have hC2 : LM w23 C2 c2 _ := ⟨hKl, hc6, hKm, hS6.all⟩
        clear hS6 hc6
        clear hb
        clear cKi cKs hKm
        go_upto_region 15 with fail
        go_cut [145] from 46 (fun v wx => v = .bool false ∧ Below w.heap.size w wx ∧ LM wx B2 d2 u ∧ LM wx C1 c1 CR ∧ LM wx C2 c2 CR)
        case first =>
          as_aux_lemma =>
            clear f2
            go_wp2_with fail
            refine (pSameEntries_any _ _ _ _ _ _ _ _ CR _ hKl hC1.2.2.2 hC2.2.2.2).mono ?_
            rintro e v1 ⟨rfl, hb⟩
            replace hu := hu.below hb
            replace hC1 := hC1.below hb
            replace hC2 := hC2.below hb
            replace hB := Below.on' hB hb
            clear hb
            go_wp2_with fail
            go_meet
            exact ⟨rfl, hB, hu, hC1, hC2⟩
        case rest =>
          obtain ⟨rfl, hI⟩ := hcut
          clear hB hu hC1 hC2
          go_upto_if 146 with fail
          go_cut [4] from 295 (fun v wx => v = .bool false ∧ Below w.heap.size w wx)
          case first =>
            as_aux_lemma =>
              obtain ⟨hB, hu, hC1, hC2⟩ := hI
              cases k with
              | false =>
                clear f2
                go_wp2_with fail
                go_meet
                exact ⟨rfl, hB⟩
              | true =>
                obtain ⟨e1, e2, e3, e4, e5, e6, e7, e8, e9, e10⟩ := f2.out rfl
                have cLi := fun W (h1 : LM W C1 c1 CR) (hS : Said W) => LiveEntries_impl C1 c1 CR W h1.1 h1.2.2.1 h1.2.2.2 h1.2.1 hS
                have cLs := fun W (h1 : LM W C2 c2 CR) => LiveEntries_spec C2 c2 CR W h1.1 h1.2.2.1 h1.2.2.2 h1.2.1
                have cLu := fun W (h1 : LM W B2 d2 u) => LiveEntries_spec B2 d2 u W h1.1 h1.2.2.1 h1.2.2.2 h1.2.1
                have cK2 := fun W (h1 : LM W C1 c1 CR) (hS : Said W) => CancelEntry_impl C1 c1 CR am n W h1.1 h1.2.2.1 h1.2.2.2 h1.2.1 hS
                rw [e2, e3] at cLi cLs
                rw [e1, e4] at cLu
                rw [e8] at cK2
                have hCl : (liveR CR).length ≤ 1048576 := by have := liveR_len CR; omega
                have hUl : (liveR u).length ≤ 1048576 := by have := liveR_len u; have := hu.1; omega
                generalize liveR CR = LC at cLi cLs hCl e5 e6
                generalize liveR u = LU at cLu hUl e5 e7
                have hlen : (LU.length : Int) - 1 = (LC.length : Int) := by omega
                have hlen2 : ((LC.length : Int) != (LU.length : Int) - 1) = false := by rw [hlen]; simp
                clear e1 e2 e3 e4 e5 e8 f2 hlen
                go_wp2_with fail
                refine (cLi _ hC1 (hS.below hB)).mono ?_
                rintro e v1 ⟨Q1, q1, rfl, hQ1, _, hb⟩
                replace hu := hu.below hb
                replace hC1 := hC1.below hb
                replace hC2 := hC2.below hb
                replace hB := Below.on' hB hb
                clear hb
                clear cLi
                go_wp2_with fail
                refine (cLs _ hC2).mono ?_
                rintro e v2 ⟨Q2, q2, rfl, hQ2, _, hb⟩
                replace hQ1 := hQ1.below hb
                replace hu := hu.below hb
                replace hC1 := hC1.below hb
                replace hC2 := hC2.below hb
                replace hB := Below.on' hB hb
                clear hb
                clear cLs
                go_wp2_with fail
                refine (cLu _ hu).mono ?_
                rintro e v3 ⟨Q3, q3, rfl, hQ3, _, hb⟩
                replace hQ1 := hQ1.below hb
                replace hQ2 := hQ2.below hb
                replace hu := hu.below hb
                replace hC1 := hC1.below hb
                replace hC2 := hC2.below hb
                replace hB := Below.on' hB hb
                clear hb
                clear cLu
                go_wp2_with fail
                refine (sameInts_any _ _ _ _ _ _ _ _ LC _ hCl hQ1 hQ2).mono ?_
                rintro e v4 ⟨rfl, hb⟩
                replace hQ2 := hQ2.below hb
                replace hQ3 := hQ3.below hb
                replace hu := hu.below hb
                replace hC1 := hC1.below hb
                replace hC2 := hC2.below hb
                replace hB := Below.on' hB hb
                clear hb
                clear hQ1
                have hpC := fun W (h : Ints W 0 W.heap.size Q2 LC) => pIn_any Q2 q2 _ _ LC (n - 1) W hCl h
                rw [e6] at hpC
                have hpU := fun W (h : Ints W 0 W.heap.size Q3 LU) => pIn_any Q3 q3 _ _ LU (n - 1) W hUl h
                rw [e7] at hpU
                clear e6 e7
                go_wp2_with fail
                refine (hpC _ hQ2.all).mono ?_
                rintro e v5 ⟨rfl, hb⟩
                replace hQ3 := hQ3.below hb
                replace hu := hu.below hb
                replace hC1 := hC1.below hb
                replace hC2 := hC2.below hb
                replace hB := Below.on' hB hb
                clear hb
                clear hQ2 hpC
                go_wp2_with fail
                refine (hpU _ hQ3.all).mono ?_
                rintro e v6 ⟨rfl, hb⟩
                replace hu := hu.below hb
                replace hC1 := hC1.below hb
                replace hC2 := hC2.below hb
                replace hB := Below.on' hB hb
                clear hb
                clear hQ3 hpU hlen2
                go_wp2_with fail
                refine (cK2 _ hC1 (hS.below hB)).mono ?_
                rintro e v7 ⟨Q4, q4, rfl, _, _, hb⟩
                replace hu := hu.below hb
                replace hC1 := hC1.below hb
                replace hC2 := hC2.below hb
                replace hB := Below.on' hB hb
                clear hb
                clear cK2
                go_wp2_with fail
                go_meet
                exact ⟨rfl, hB⟩
          case rest =>
            obtain ⟨rfl, hI⟩ := hcut
            clear f2 hKl
            have hB := hI
            clear hI
            go_wp2_with fail
            refine (DrawLogText_any Amo cmo mo _ hl2 hmmo (hSmo.below hB).all).mono ?_
            rintro e w41 ⟨B3, d3, v, rfl, hE1, hb⟩
            replace hB := Below.on' hB hb
            clear hb
            have hv : LM w41 B3 d3 v := hE1.lm
            clear hE1
            have cTi := fun W (h1 : LM W B3 d3 v) (hT : TabW W) => LogText_impl B3 d3 v W h1.1 h1.2.2.1 h1.2.2.2 h1.2.1 hT
            have cTs := fun W (h1 : LM W B3 d3 v) => LogText_spec B3 d3 v W h1.1 h1.2.2.1 h1.2.2.2 h1.2.1
            have cSi := fun W (h1 : LM W B3 d3 v) (hT : TabW W) => SumOfLog_impl B3 d3 v W h1.1 h1.2.2.1 h1.2.2.2 h1.2.1 hT
            have cSs := fun W (h1 : LM W B3 d3 v) => SumOfLog_spec B3 d3 v W h1.1 h1.2.2.1 h1.2.2.2 h1.2.1
            have cI := fun W (h1 : LM W B3 d3 v) => IsLog_impl B3 d3 v W h1.big.1 h1.big.2 h1.2.2.2
            have f3 : logB v = true → LogOf (logTT v) v true ∧ (logTT v).size ≤ 1048576 := fun h => by
              obtain ⟨e1, e2, e3⟩ := text_law h
              rw [e1]; exact ⟨e2, e3⟩
            generalize logTT v = tt at cTi cTs f3
            generalize sumT v = su at cSi cSs
            generalize logB v = lb at cTi cTs cSi cSs cI f3
            replace f3 := Lib.hid f3
            go_wp2_with fail
            refine (cTi _ hv (hT.below hB)).mono ?_
            rintro e w42 ⟨rfl, hb⟩
            replace hv := hv.below hb
            replace hB := Below.on' hB hb
            clear hb
            go_wp2_with fail
            refine (cTs _ hv).mono ?_
            rintro e w43 ⟨rfl, hb⟩
            replace hv := hv.below hb
            replace hB := Below.on' hB hb
            clear hb
            go_wp2_with fail
            refine (cSi _ hv (hT.below hB)).mono ?_
            rintro e w44 ⟨rfl, hb⟩
            replace hv := hv.below hb
            replace hB := Below.on' hB hb
            clear hb
            go_wp2_with fail
            refine (cSs _ hv).mono ?_
            rintro e w45 ⟨rfl, hb⟩
            replace hv := hv.below hb
            replace hB := Below.on' hB hb
            clear hb
            clear cTi cTs cSi cSs
            go_wp2_with fail
            refine (DrawParseLog_any Amo cmo mo _ hl2 hmmo (hSmo.below hB).all).mono ?_
            rintro e w46 ⟨s, hs, rfl, hb⟩
            replace hv := hv.below hb
            replace hB := Below.on' hB hb
            clear hb
            obtain ⟨pl, pb, hg⟩ := LogOf.ex s
            have hPl := hg.len
            have cPi := fun W (hS : Said W) (hX : MaxL W) => ParseLog_impl s pl pb hg W hs hS hX
            have cPs := fun W => ParseLog_spec s pl pb hg W hs
            clear hg
            go_wp2_with fail
            refine (cPi _ (hS.below hB) (hX.below hB)).mono ?_
            rintro e w47 ⟨P1, p1, rfl, hP1, _, hb⟩
            replace hv := hv.below hb
            replace hB := Below.on' hB hb
            clear hb
            go_wp2_with fail
            refine (cPs _).mono ?_
            rintro e w48 ⟨P2, p2, rfl, hP2, _, hb⟩
            replace hP1 := hP1.below hb
            replace hv := hv.below hb
            replace hB := Below.on' hB hb
            clear hb cPi cPs hs hSmo
            go_upto_region 34 with fail
            go_cut [280] from 46 (fun v_ wx => v_ = .bool false ∧ Below w.heap.size w wx ∧ LM wx B3 d3 v)
            case first =>
              as_aux_lemma =>
                clear f3
                go_wp2_with fail
                refine (pSameEntries_any _ _ _ _ _ _ _ _ pl _ hPl hP1 hP2).mono ?_
                rintro e v1 ⟨rfl, hb⟩
                replace hv := hv.below hb
                replace hB := Below.on' hB hb
                clear hb
                clear hP1 hP2
                go_wp2_with fail
                refine (cI _ hv).mono ?_
                rintro e v2 ⟨rfl, hb⟩
                replace hv := hv.below hb
                replace hB := Below.on' hB hb
                clear hb
                clear cI
                go_wp2_with fail
                go_meet
                exact ⟨rfl, hB, hv⟩
            case rest =>
              obtain ⟨rfl, hI⟩ := hcut
              clear hB hv hP1 hP2 cI hPl
              obtain ⟨hB, hv⟩ := hI
              cases lb with
              | false =>
                clear f3
                go_wp2
                go_ret
                exact ⟨rfl, hB⟩
              | true =>
                obtain ⟨g1, g2⟩ := f3.out rfl
                have cP := fun W (hS : Said W) (hX : MaxL W) => ParseLog_impl tt v true g1 W g2 hS hX
                have hvl := hv.1
                clear f3 g1
                go_wp2_with fail
                refine (cP _ (hS.below hB) (hX.below hB)).mono ?_
                rintro e v1 ⟨Q1, q1, rfl, hQ1, _, hb⟩
                replace hv := hv.below hb
                replace hB := Below.on' hB hb
                clear hb
                clear cP
                go_wp2_with fail
                refine (pSameEntries_any _ _ _ _ _ _ _ _ v _ hvl hQ1 hv.2.2.2).mono ?_
                rintro e v2 ⟨rfl, hb⟩
                replace hv := hv.below hb
                replace hB := Below.on' hB hb
                clear hb
                go_wp2
                go_ret
                exact ⟨rfl, hB⟩

theorem lay_met (os : Os) (args : Array Value) : laidMetH Tryz.prog Rows.fnLogsRow.laid ((World.laidAll Tryz.prog os Rows.fnLogsRow.laid).forCall (fun _ _ => 0) ⟨#[], args, []⟩).memory := by
  rw [MakeChecks.laidMetH_plain _ _ _ (by kernel_rfl)]
  exact laidMet_laidAll _ (by kernel_rfl) (by kernel_rfl)
set_option maxRecDepth 100000 in
theorem lifted (os : Os) (started : os.Started) (H : Type) (enc : TypeId × Value → H) :
    ReturnsInHanded {} Tryz.checked os 3 .any (fun w args => (Rows.fnLogsSpec.pre enc Tryz.prog Tryz.f3 [] false w args ∧ laidMetH Tryz.prog Rows.fnLogsRow.laid w) ∧ sizedMet enc Tryz.prog Tryz.f3 (OpenSpec.ofChange Rows.fnLogsSpec) false w args) (Rows.fnLogsSpec.post enc Tryz.prog Tryz.f3 false true false false) := by
  refine law_liftedD (C := Tryz.checked) own started (by kernel_rfl) Tryz.func3
    (ChangeSpec.witness_shaped (enc := enc) (C := Tryz.checked) (os := os) (X := fun w _ => laidMetH Tryz.prog Rows.fnLogsRow.laid w) false (World.laidAll Tryz.prog os Rows.fnLogsRow.laid) #[.slice none 0 0, .slice none 0 0] 8 (World.laidAll_os _ _ _) (World.shaped_of_ZipB (by kernel_rfl) (by kernel_rfl)) (by kernel_rfl) (by kernel_rfl) (by kernel_rfl) (lay_met os _))
    laidOut 4 (by kernel_rfl) Tryz.underlying4 (by kernel_rfl) rfl ?_ ?_
  · intro ds hds
    have hn : Tryz.f3.params.size = 2 := by kernel_rfl
    rw [hn] at hds
    match ds, hds with
    | [d0, d1], _ => rfl
  intro W base args ds p hval0 hA0 hlt hnf hL hSh
  have hval : ∀ (j : Nat) t v, Tryz.f3.params[j]? = some t → args[j]? = some v → Value.okWide Tryz.prog W .any base t v := hval0
  have hA : DataW.TrodAll enc Tryz.prog W 0 (fun _ => true) true Tryz.f3.params.toList args.toList ds p := hA0
  clear hval0 hA0
  rw [Tryz.params3] at hA hval
  obtain ⟨v0, vs0, d0, ds0, p0, q0, hargs, rfl, rfl, h0, r0⟩ := trodAll_cons hA
  obtain ⟨v1, vs1, d1, ds1, p1, q1, rfl, rfl, rfl, h1, r1⟩ := trodAll_cons r0
  obtain ⟨rfl, rfl, rfl⟩ := trodAll_nil r1
  obtain rfl : args = #[v0, v1] := by cases args; simp_all
  obtain ⟨Aco, cco, co, rfl, hlco, hmco, hSco⟩ := Byt.openedS (hval 0 22 v0 rfl rfl) h0 (fun x hx => hlt x (by simp [hx])) (fun b o h => hnf b o (by simp [h]))
  obtain ⟨Amo, cmo, mo, rfl, hlmo, hmmo, hSmo⟩ := Byt.openedS (hval 1 22 v1 rfl rfl) h1 (fun x hx => hlt x (by simp [hx])) (fun b o h => hnf b o (by simp [h]))
  exact walk Aco cco co hlco hmco Amo cmo mo hlmo hmmo W hSco hSmo hL hSh

theorem over : Rows.fnLogsRow.holds Tryz.pinned (OpenSpec.ofChange Rows.fnLogsSpec) :=
  OpenClaim.holds_of_wide 3 Tryz.f3 rfl rfl rfl rfl rfl rfl rfl ⟨rfl, rfl, rfl, rfl, rfl⟩ rfl rfl rfl rfl rfl (by kernel_rfl) Tryz.func3 (by kernel_rfl)
    (of_decide_eq_true (by kernel_rfl)) (by unfold Func.isWrapper; first | (rw [if_pos (by decide +kernel)]; kernel_rfl) | (rw [if_neg (by decide +kernel)]; exact ⟨rfl, rfl⟩))
    (fun os started H enc _ => lifted os started H enc)

theorem proved : Rows.FnLogsCardSaid :=
  Claim7.holds_tied_plain_at .later [] [.data, .data, .data, .data, .sentinel, .sentinel, .pinned] true Rows.fnLogsCard.stood.harness Rows.fnLogsCard.stood.looks
    over (fun _ h => by cases h) (by kernel_rfl) (fun _ h => by cases h) fnLogs_row_tie rfl ⟨rfl, rfl⟩ (by kernel_rfl) rfl
    (fun f fn hf hfn => by
      obtain rfl : f = 3 := Option.some.inj ((show Tryz.prog.funcNamed "loop.example/g01020/laws.FnLogs" = some 3 by kernel_rfl).symm.trans hf) |>.symm
      obtain rfl : fn = Tryz.f3 := (Option.some.inj (Tryz.func3.symm.trans hfn)).symm
      exact ⟨by kernel_rfl, fun j t ht => by
        rw [Tryz.params3] at ht
        have hm : t ∈ [22] := by simpa using Array.mem_of_getElem? ht
        have hall : ([22].all fun u => !Tryz.prog.wantsStandIn u) = true := by kernel_rfl
        exact (show Tryz.prog.wantsStandIn t = false by simpa using List.all_eq_true.1 hall t hm)⟩)
    (by kernel_rfl)
#print axioms proved
end Go.Proofs.YtmdmcjhodhphgaaGreatDoor.lawLogs

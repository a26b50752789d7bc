/- FnEntries: for all drawn logs the law returns true. No conditions beyond the card's own: the listed variables are those that the program's text lays. -/
import Derived.Test.YtmdmcjhodhphgaaGreatDoorDrwI
import Derived.Test.YtmdmcjhodhphgaaGreatDoorEnP
import Derived.Test.YtmdmcjhodhphgaaGreatDoorPe
import Derived.Test.YtmdmcjhodhphgaaGreatDoorSameEnt
import Derived.Test.YtmdmcjhodhphgaaGreatDoorSameInts
import Derived.Test.YtmdmcjhodhphgaaGreatDoorLogM
import Derived.Test.YtmdmcjhodhphgaaGreatDoorSaid
import Derived.Test.YtmdmcjhodhphgaaGreatDoorArg
import Derived.Test.YtmdmcjhodhphgaaGreatDoorTie
import Derived.Test.YtmdmcjhodhphgaaGreatDoorCards
import Derived.SevenTiedAt
import Derived.Lay
import Derived.Deep.Cut
namespace Go.Proofs.YtmdmcjhodhphgaaGreatDoor.lawEntries
open Go.ChangeShapes Go.WideShapes Go.ChangeAt Go.RowKit Go.Joins Go.Proofs.YtmdmcjhodhphgaaGreatDoor

theorem _root_.Go.Proofs.YtmdmcjhodhphgaaGreatDoor.EL.lm {b d : Nat} {W : World} {B : Option Addr} {L : List Ent} (h : EL b W B d L) : LM W B d L := ⟨by have := h.1.1; omega, h.1.2, fun x hx => by have := h.2.1 x hx; omega, h.2.2.all⟩
theorem IsEntry_im (r n m : Int) (t : ByteArray) (ht : t.size ≤ maxLen) (w : World) : Calls Tryz.prog 44 #[.agg #[.int .i64 r, .int .i64 n, .int .i64 m, .string t]] w (RV w (.bool (entB r n m t))) := by
  go_enter Tryz.func44, Tryz.ntmps44
  go_wp2_with (go_at_call 87; refine (isEntry_any _ _ _ _ ht _).mono ?_; rintro e w1 ⟨rfl, hb⟩; obtain ⟨hc, hf, hl, hz⟩ := bfam hb; (try simp at hz); (try (have k0 : w.heap.size < w1.heap.size := (by omega))); have hB : Below w.heap.size w w1 := Below.on' (by go_grown) hb; clear hb)
  go_ret
  exact RV.mk rfl hB
set_option maxRecDepth 100000 in
set_option maxHeartbeats 40000000 in
theorem walk (Aco : Option Addr) (cco : Nat) (co : List Int) (hl1 : co.length ≤ maxLen) (hmco : ∀ x ∈ co, 0 ≤ x ∧ x ≤ 255) (Amo : Option Addr) (cmo : Nat) (mo : List Int) (hl2 : mo.length ≤ maxLen) (hmmo : ∀ x ∈ mo, 0 ≤ x ∧ x ≤ 255) (w : World) (hSco : Sl byE 1 w 0 w.heap.size Aco co) (hSmo : Sl byE 1 w 0 w.heap.size Amo mo) (hL : laidMetH Tryz.prog Rows.fnEntriesRow.laid w) (hSh : w.ShapedOpen Tryz.prog) :
    Calls Tryz.prog 4 #[.slice Aco co.length cco, .slice Amo mo.length cmo] w fun e w' => e = .returned (.bool true) ∧ Below w.heap.size w w' := by
  have hS : Said w := by
    have h : laidMet Tryz.prog Rows.fnEntriesRow.laid w := by rw [MakeChecks.laidMetH_plain _ _ _ (by kernel_rfl)] at hL; exact hL
    exact said_at h.tail.tail h.tail.tail.tail.tail
  have hX : MaxL w := maxL_of hSh
  have hT : TabW w := hS.tab
  clear hL hSh
  go_enter Tryz.func4, Tryz.ntmps4
  go_wp2_with fail
  refine (big_any Aco Amo cco cmo co mo _ hl1 hl2).mono ?_
  rintro e w1 ⟨v, rfl, hb⟩
  have hB := hb
  clear hb
  cases v with
  | true =>
    go_wp2
    go_ret
    exact ⟨rfl, hB⟩
  | false =>
    go_wp2_with fail
    refine (DrawEntriesBetween_any Aco cco co _ hl1 hmco (hSco.below hB).all).mono ?_
    rintro e w2 ⟨B1, d1, l, f, u, rfl, hE1, hb⟩
    replace hB := Below.on' hB hb
    clear hb
    have hl : LM w2 B1 d1 l := hE1.lm
    clear hE1
    have cBi := fun W (h1 : LM W B1 d1 l) => EntriesBetween_impl B1 d1 l f u W h1.1 h1.2.2.1 h1.2.2.2 h1.2.1
    have cBs := fun W (h1 : LM W B1 d1 l) => EntriesBetween_spec B1 d1 l f u W h1.1 h1.2.2.1 h1.2.2.2 h1.2.1
    have hRl : (betR l f u).length ≤ 1048576 := Nat.le_trans (betR_len l f u) hl.1
    have f1 : betOk l f u = true → ∀ (k : Nat) (x : Ent), l[k]? = some x → (betR l f u).contains (k : Int) = inB x.m f u := fun h k x hx => bet_law h hx
    generalize betR l f u = R at cBi cBs hRl f1
    generalize betOk l f u = q at cBi cBs f1
    replace f1 := Lib.hid f1
    go_wp2_with fail
    refine (cBi _ hl).mono ?_
    rintro e w3 ⟨Q1, q1, rfl, hQ1, _, hb⟩
    replace hl := hl.below hb
    replace hB := Below.on' hB hb
    clear hb
    go_wp2_with fail
    refine (cBs _ hl).mono ?_
    rintro e w4 ⟨Q2, q2, rfl, hQ2, _, hb⟩
    replace hQ1 := hQ1.below hb
    replace hl := hl.below hb
    replace hB := Below.on' hB hb
    clear hb
    clear cBi cBs
    go_upto_region 6 with fail
    go_cut [83] from 52 (fun v wx => v = .bool false ∧ Below w.heap.size w wx ∧ LM wx B1 d1 l ∧ Ints wx 0 wx.heap.size Q2 R)
    case first =>
      as_aux_lemma =>
        clear f1
        go_wp2_with fail
        refine (sameInts_any _ _ _ _ _ _ _ _ R _ hRl hQ1 hQ2).mono ?_
        rintro e v1 ⟨rfl, hb⟩
        replace hQ2 := hQ2.below hb
        replace hl := hl.below hb
        replace hB := Below.on' hB hb
        clear hb
        clear hQ1
        go_wp2_with fail
        go_meet
        exact ⟨rfl, hB, hl, hQ2.all⟩
    case rest =>
      obtain ⟨rfl, hI⟩ := hcut
      clear hB hl hQ1 hQ2
      go_upto_if 84 with fail
      go_cut [4] from 312 (fun v wx => v = .bool false ∧ Below w.heap.size w wx)
      case first =>
        as_aux_lemma =>
          obtain ⟨hB, hl, hQ2⟩ := hI
          cases q with
          | false =>
            clear f1
            go_wp2_with fail
            go_meet
            exact ⟨rfl, hB⟩
          | true =>
            have F1 := f1.out rfl
            replace F1 := Lib.hid F1
            have hll := hl.1
            clear f1
            go_wp2_with fail
            go_loopw [4, 87] (fun v_ i wr => ∃ k : Nat, k ≤ l.length ∧ v_ = .bool false ∧ i = .int .i64 k ∧ Below w.heap.size w wr ∧ LM wr B1 d1 l ∧ Ints wr 0 wr.heap.size Q2 R) (fun _ i _ => l.length - (intOf i).toNat)
            case atStart => exact ⟨0, Nat.zero_le _, rfl, rfl, hB, hl, hQ2⟩
            case round =>
              clear hB hl hQ2
              obtain ⟨k, hk, rfl, rfl, hB, hl, hQ2⟩ := hrel
              by_cases hlt : k < l.length
              · obtain ⟨x, hx, _⟩ := get_lt hlt
                have HC := Lib.hid (F1.out k x hx)
                obtain ⟨pa, oa, rfl, _, _, _, hf⟩ := hl.2.2.2.at_ hx
                have c0 : wr.cell? ⟨pa, oa + k * 4, none⟩ = some (.int .i64 x.r) := (hf 0 _ rfl).1
                have c1 : wr.cell? ⟨pa, oa + k * 4 + 1, none⟩ = some (.int .i64 x.n) := (hf 1 _ rfl).1
                have c2 : wr.cell? ⟨pa, oa + k * 4 + 2, none⟩ = some (.int .i64 x.m) := (hf 2 _ rfl).1
                have c3 : wr.cell? ⟨pa, oa + k * 4 + 3, none⟩ = some (.string x.t) := (hf 3 _ rfl).1
                clear hf hx
                have hlt' : (k : Int) < l.length := by omega
                have hX := BN.new wr #[.int .i64 x.r, .int .i64 x.n, .int .i64 x.m, .string x.t] 33 _ rfl
                have b2 := (hX 2 _ rfl).1
                go_wp2_with fail
                replace hl := hl.alloc (.cells #[.int .i64 x.r, .int .i64 x.n, .int .i64 x.m, .string x.t] 33)
                replace hQ2 := (hQ2.alloc (.cells #[.int .i64 x.r, .int .i64 x.n, .int .i64 x.m, .string x.t] 33)).all
                replace hB := Below.lay hB (.cells #[.int .i64 x.r, .int .i64 x.n, .int .i64 x.m, .string x.t] 33)
                clear c0 c1 c2 c3 hX
                generalize wr.alloc (.cells #[.int .i64 x.r, .int .i64 x.n, .int .i64 x.m, .string x.t] 33) = V at hl hQ2 hB b2 ⊢
                have hcls : ∀ w', Below V.heap.size V w' → w'.cell? ⟨wr.heap.size, 2, none⟩ = some (.int .i64 x.m) := fun w' h => keep h b2
                clear b2
                have hP : ∀ W, Below V.heap.size V W → Calls Tryz.prog 18 #[.slice Q2 R.length q2, .int .i64 (k : Int)] W (RV W (.bool (inB x.m f u))) := fun W h => by
                  have := pIn_any Q2 q2 0 W.heap.size R (k : Int) W hRl (hQ2.below h).all
                  rw [HC.out] at this
                  exact this
                unfold inB at hP
                clear HC
                by_cases h1 : f ≤ x.m
                · have g1 : decide (f ≤ x.m) = true := by simp [h1]
                  rw [g1, Bool.true_and] at hP
                  by_cases h2 : x.m ≤ u
                  · have g2 : decide (x.m ≤ u) = true := by simp [h2]
                    rw [g2] at hP
                    go_upto_region 12 with fail
                    refine wp_region_quiet (C := fun w' => Below V.heap.size V w') (by kernel_rfl) (by kernel_rfl) ((Below.refl _ _).drew) ?_
                    dsimp only [Array.toList]
                    iterate 14
                      with_reducible refine wpQuiet_step (fun K hK => ?_)
                      go_simp
                      first
                        | (refine hK _ ?_; clear hK K)
                        | (apply Exists.intro
                           refine ⟨fun w' hw' => ?_, hK _ ?_⟩
                           · have z0 := hcls w' hw'
                             go_simp
                             first
                               | rfl
                               | (refine (hP w' hw').mono ?_; rintro e w1 ⟨rfl, hb⟩; exact ⟨rfl, hw'.trans (hb.mono hw'.size)⟩)
                           clear hK K)
                    refine wpQuiet_nil ?_
                    intro W2 hW2
                    replace hB := Below.on' hB hW2
                    replace hl := hl.below hW2
                    replace hQ2 := (hQ2.below hW2).all
                    clear hP hcls hW2
                    go_wp2
                    go_roundw
                    case rel => exact ⟨k + 1, by omega, rfl, by go_num, hB, hl, hQ2⟩
                    case measure => simp [intOf]; omega
                  · have g2 : decide (x.m ≤ u) = false := by simpa using h2
                    rw [g2] at hP
                    go_upto_region 12 with fail
                    refine wp_region_quiet (C := fun w' => Below V.heap.size V w') (by kernel_rfl) (by kernel_rfl) ((Below.refl _ _).drew) ?_
                    dsimp only [Array.toList]
                    iterate 14
                      with_reducible refine wpQuiet_step (fun K hK => ?_)
                      go_simp
                      first
                        | (refine hK _ ?_; clear hK K)
                        | (apply Exists.intro
                           refine ⟨fun w' hw' => ?_, hK _ ?_⟩
                           · have z0 := hcls w' hw'
                             go_simp
                             first
                               | rfl
                               | (refine (hP w' hw').mono ?_; rintro e w1 ⟨rfl, hb⟩; exact ⟨rfl, hw'.trans (hb.mono hw'.size)⟩)
                           clear hK K)
                    refine wpQuiet_nil ?_
                    intro W2 hW2
                    replace hB := Below.on' hB hW2
                    replace hl := hl.below hW2
                    replace hQ2 := (hQ2.below hW2).all
                    clear hP hcls hW2
                    go_wp2
                    go_roundw
                    case rel => exact ⟨k + 1, by omega, rfl, by go_num, hB, hl, hQ2⟩
                    case measure => simp [intOf]; omega
                · have g1 : decide (f ≤ x.m) = false := by simpa using h1
                  rw [g1, Bool.false_and] at hP
                  go_upto_region 12 with fail
                  refine wp_region_quiet (C := fun w' => Below V.heap.size V w') (by kernel_rfl) (by kernel_rfl) ((Below.refl _ _).drew) ?_
                  dsimp only [Array.toList]
                  iterate 14
                    with_reducible refine wpQuiet_step (fun K hK => ?_)
                    go_simp
                    first
                      | (refine hK _ ?_; clear hK K)
                      | (apply Exists.intro
                         refine ⟨fun w' hw' => ?_, hK _ ?_⟩
                         · have z0 := hcls w' hw'
                           go_simp
                           first
                             | rfl
                             | (refine (hP w' hw').mono ?_; rintro e w1 ⟨rfl, hb⟩; exact ⟨rfl, hw'.trans (hb.mono hw'.size)⟩)
                         clear hK K)
                  refine wpQuiet_nil ?_
                  intro W2 hW2
                  replace hB := Below.on' hB hW2
                  replace hl := hl.below hW2
                  replace hQ2 := (hQ2.below hW2).all
                  clear hP hcls hW2
                  go_wp2
                  go_roundw
                  case rel => exact ⟨k + 1, by omega, rfl, by go_num, hB, hl, hQ2⟩
                  case measure => simp [intOf]; omega
              · have hlt' : ¬ (k : Int) < l.length := by omega
                go_wp2_with fail
                go_meet
                exact ⟨rfl, hB⟩
      case rest =>
        obtain ⟨rfl, hI⟩ := hcut
        clear f1 hRl
        have hB := hI
        clear hI
        go_wp2_with fail
        refine (DrawEntriesWith_any Amo cmo mo _ hl2 hmmo (hSmo.below hB).all).mono ?_
        rintro e w21 ⟨B2, d2, v, p, rfl, hp, hE1, hb⟩
        replace hB := Below.on' hB hb
        clear hb
        have hv : LM w21 B2 d2 v := hE1.lm
        have hp' : p.size ≤ 1048576 := by omega
        clear hE1
        have cWi := fun W (h1 : LM W B2 d2 v) (hS : Said W) (hX : MaxL W) => EntriesWith_impl B2 d2 v p W h1.1 h1.2.2.1 h1.2.2.2 h1.2.1 hp' hS hX
        have cWs := fun W (h1 : LM W B2 d2 v) => EntriesWith_spec B2 d2 v p W h1.1 h1.2.2.1 h1.2.2.2 h1.2.1 hp'
        have hRl : (witR v p).length ≤ 1048576 := Nat.le_trans (witR_len v p) hv.1
        have f2 : witOk v p = true → logB v = true ∧ ∀ n ∈ witR v p, (livT v).contains n = true := fun h => by
          obtain ⟨e1, _, e3⟩ := wit_law h
          exact ⟨e1, e3⟩
        generalize witR v p = R at cWi cWs hRl f2
        generalize witOk v p = q at cWi cWs f2
        replace f2 := Lib.hid f2
        go_wp2_with fail
        refine (cWi _ hv (hS.below hB) (hX.below hB)).mono ?_
        rintro e w22 ⟨Q1, q1, rfl, hQ1, _, hb⟩
        replace hv := hv.below hb
        replace hB := Below.on' hB hb
        clear hb
        go_wp2_with fail
        refine (cWs _ hv).mono ?_
        rintro e w23 ⟨Q2, q2, rfl, hQ2, _, hb⟩
        replace hQ1 := hQ1.below hb
        replace hv := hv.below hb
        replace hB := Below.on' hB hb
        clear hb
        clear cWi cWs
        go_upto_region 18 with fail
        go_cut [132] from 52 (fun v_ wx => v_ = .bool false ∧ Below w.heap.size w wx ∧ LM wx B2 d2 v ∧ Ints wx 0 wx.heap.size Q2 R)
        case first =>
          as_aux_lemma =>
            clear f2
            go_wp2_with fail
            refine (sameInts_any _ _ _ _ _ _ _ _ R _ hRl hQ1 hQ2).mono ?_
            rintro e v1 ⟨rfl, hb⟩
            replace hQ2 := hQ2.below hb
            replace hv := hv.below hb
            replace hB := Below.on' hB hb
            clear hb
            clear hQ1
            go_wp2_with fail
            go_meet
            exact ⟨rfl, hB, hv, hQ2.all⟩
        case rest =>
          obtain ⟨rfl, hI⟩ := hcut
          clear hB hv hQ1 hQ2
          go_upto_if 133 with fail
          go_cut [4] from 312 (fun v_ wx => v_ = .bool false ∧ Below w.heap.size w wx)
          case first =>
            as_aux_lemma =>
              obtain ⟨hB, hv, hQ2⟩ := hI
              cases q with
              | false =>
                clear f2
                go_wp2_with fail
                go_meet
                exact ⟨rfl, hB⟩
              | true =>
                obtain ⟨e1, e2⟩ := f2.out rfl
                have cLi := fun W (h1 : LM W B2 d2 v) (hS : Said W) => LiveEntries_impl B2 d2 v W h1.1 h1.2.2.1 h1.2.2.2 h1.2.1 hS
                have cLs := fun W (h1 : LM W B2 d2 v) => LiveEntries_spec B2 d2 v W h1.1 h1.2.2.1 h1.2.2.2 h1.2.1
                rw [e1] at cLi cLs
                have hLl : (livT v).length ≤ 1048576 := Nat.le_trans (livT_len v) hv.1
                generalize livT v = LV at cLi cLs hLl e2
                replace e2 := Lib.hid e2
                clear f2 e1
                go_wp2_with fail
                refine (cLi _ hv (hS.below hB)).mono ?_
                rintro e v1 ⟨Q3, q3, rfl, hQ3, _, hb⟩
                replace hQ2 := (hQ2.below hb).all
                replace hv := hv.below hb
                replace hB := Below.on' hB hb
                clear hb
                clear cLi
                go_wp2_with fail
                refine (cLs _ hv).mono ?_
                rintro e v2 ⟨Q4, q4, rfl, hQ4, _, hb⟩
                replace hQ2 := (hQ2.below hb).all
                replace hQ3 := hQ3.below hb
                replace hv := hv.below hb
                replace hB := Below.on' hB hb
                clear hb
                clear cLs
                go_wp2_with fail
                refine (sameInts_any _ _ _ _ _ _ _ _ LV _ hLl hQ3 hQ4).mono ?_
                rintro e v3 ⟨rfl, hb⟩
                replace hQ2 := (hQ2.below hb).all
                replace hQ4 := hQ4.below hb
                replace hB := Below.on' hB hb
                clear hb
                clear hQ3 hv
                replace hQ4 := hQ4.all
                go_wp2_with fail
                go_loopw [4, 158] (fun v_ i wr => ∃ k : Nat, k ≤ R.length ∧ v_ = .bool false ∧ i = .int .i64 k ∧ Below w.heap.size w wr ∧ Ints wr 0 wr.heap.size Q4 LV ∧ Ints wr 0 wr.heap.size Q2 R) (fun _ i _ => R.length - (intOf i).toNat)
                case atStart => exact ⟨0, Nat.zero_le _, rfl, rfl, hB, hQ4, hQ2⟩
                case round =>
                  clear hB hQ4 hQ2
                  obtain ⟨k, hk, rfl, rfl, hB, hQ4, hQ2⟩ := hrel
                  by_cases hlt : k < R.length
                  · obtain ⟨x, hx, hxm⟩ := get_lt hlt
                    have HC := Lib.hid (e2.out x hxm)
                    obtain ⟨pa, oa, rfl, _, _, _, c0, _⟩ := Ints.at1 hQ2 hx
                    clear hx hxm
                    have hlt' : (k : Int) < R.length := by omega
                    have cP := pIn_any Q4 q4 0 wr.heap.size LV x wr hLl hQ4
                    rw [HC.out] at cP
                    clear HC
                    go_wp2_with fail
                    refine cP.mono ?_
                    rintro e v4 ⟨rfl, hb⟩
                    replace hQ2 := (hQ2.below hb).all
                    replace hQ4 := (hQ4.below hb).all
                    replace hB := Below.on' hB hb
                    clear hb cP c0
                    go_wp2
                    go_roundw
                    case rel => exact ⟨k + 1, by omega, rfl, by go_num, hB, hQ4, hQ2⟩
                    case measure => simp [intOf]; omega
                  · have hlt' : ¬ (k : Int) < R.length := by omega
                    go_wp2_with fail
                    go_meet
                    exact ⟨rfl, hB⟩
          case rest =>
            obtain ⟨rfl, hI⟩ := hcut
            clear f2 hRl
            have hB := hI
            clear hI
            go_wp2_with fail
            refine (DrawSilentTime_any Amo cmo mo _ hl2 hmmo (hSmo.below hB).all).mono ?_
            rintro e w41 ⟨B3, d3, z, rfl, hE1, hb⟩
            replace hB := Below.on' hB hb
            clear hb
            have hz : LM w41 B3 d3 z := hE1.lm
            clear hE1
            have cSi := fun W (h1 : LM W B3 d3 z) => SilentTime_impl B3 d3 z W h1.big.1 h1.big.2 h1.2.2.2 h1.2.1
            have cSs := fun W (h1 : LM W B3 d3 z) => SilentTime_spec B3 d3 z W h1.big.1 h1.big.2 h1.2.2.2 h1.2.1
            have f3 : silentB z = true → ∀ (k : Nat) (x y : Ent), z[k]? = some x → z[k + 1]? = some y → y.m - x.m ≤ silentT z ∧ (0 ≤ x.m ∧ x.m ≤ 99999) ∧ (0 ≤ y.m ∧ y.m ≤ 99999) := fun h k x y h0 h1 => silent_law h h0 h1
            generalize silentI z = si at cSi cSs
            generalize silentT z = st at cSi cSs f3
            generalize silentB z = q at cSi cSs f3
            replace f3 := Lib.hid f3
            go_wp2_with fail
            refine (cSi _ hz).mono ?_
            rintro e w42 ⟨rfl, hb⟩
            replace hz := hz.below hb
            replace hB := Below.on' hB hb
            clear hb
            go_wp2_with fail
            refine (cSs _ hz).mono ?_
            rintro e w43 ⟨rfl, hb⟩
            replace hz := hz.below hb
            replace hB := Below.on' hB hb
            clear hb
            clear cSi cSs
            go_upto_region 34 with fail
            go_cut [193] from 52 (fun v_ wx => v_ = .bool false ∧ Below w.heap.size w wx ∧ LM wx B3 d3 z)
            case first =>
              as_aux_lemma =>
                clear f3
                go_wp2_with fail
                go_meet
                exact ⟨rfl, hB, hz⟩
            case rest =>
              obtain ⟨rfl, hI⟩ := hcut
              clear hB hz
              go_upto_if 194 with fail
              go_cut [4] from 312 (fun v_ wx => v_ = .bool false ∧ Below w.heap.size w wx)
              case first =>
                as_aux_lemma =>
                  obtain ⟨hB, hz⟩ := hI
                  cases q with
                  | false =>
                    clear f3
                    go_wp2_with fail
                    go_meet
                    exact ⟨rfl, hB⟩
                  | true =>
                    have F3 := f3.out rfl
                    replace F3 := Lib.hid F3
                    have hzl := hz.1
                    clear f3
                    go_wp2_with fail
                    go_loopw [4, 33] (fun v_ i wr => ∃ k : Nat, v_ = .bool false ∧ i = .int .i64 (k + 1) ∧ k ≤ z.length ∧ Below w.heap.size w wr ∧ LM wr B3 d3 z) (fun _ i _ => z.length + 1 - (intOf i).toNat)
                    case atStart => exact ⟨0, rfl, rfl, Nat.zero_le _, hB, hz⟩
                    case round =>
                      clear hB hz
                      obtain ⟨k, rfl, rfl, hk, hB, hz⟩ := hrel
                      by_cases hlt : k + 1 < z.length
                      · obtain ⟨x, hx, _⟩ := get_lt (l := z) (i := k) (by omega)
                        obtain ⟨y, hy, _⟩ := get_lt hlt
                        obtain ⟨e1, ⟨e2, e3⟩, ⟨e4, e5⟩⟩ := F3.out k x y hx hy
                        obtain ⟨pa, oa, rfl, _, _, _, hf⟩ := hz.2.2.2.at_ hx
                        have c0 : wr.cell? ⟨pa, oa + k * 4 + 2, none⟩ = some (.int .i64 x.m) := (hf 2 _ rfl).1
                        have hg : wr.cell? ⟨pa, oa + (k + 1) * 4 + 2, none⟩ = some (.int .i64 y.m) := by
                          obtain ⟨pb', ob', e, _, _, _, hf'⟩ := hz.2.2.2.at_ hy
                          cases e
                          exact (hf' 2 _ rfl).1
                        clear hf hx hy
                        have hlt' : (k : Int) + 1 < z.length := by omega
                        have hk0 : (0 : Int) ≤ (k : Int) + 1 := by omega
                        have hw0 : IntKind.i64.wrap ((k : Int) + 1 - 1) = (k : Int) := by rw [IntWalk.i64_in _ (by omega)]; omega
                        have hw1 : IntKind.i64.wrap (y.m - x.m) = y.m - x.m := IntWalk.i64_in _ (by omega)
                        have hw2 : ((k : Int) + 1).toNat = k + 1 := by omega
                        have hgt : decide (st < y.m - x.m) = false := by simp; omega
                        clear e2 e3 e4 e5
                        go_wp2_with fail
                        go_quiet (fail)
                        clear hw0 hw1 hw2 c0 hg
                        go_wp2
                        go_roundw
                        case rel => exact ⟨k + 1, rfl, by go_num, by omega, ⟨hB.os, hB.tape, hB.output, hB.size, hB.block⟩, hz.below ⟨rfl, rfl, rfl, Nat.le_refl _, fun _ _ => rfl⟩⟩
                        case measure => simp [intOf]; omega
                      · have hlt' : ¬ (k : Int) + 1 < z.length := by omega
                        go_wp2_with fail
                        go_meet
                        exact ⟨rfl, hB⟩
              case rest =>
                obtain ⟨rfl, hI⟩ := hcut
                clear f3
                have hB := hI
                clear hI
                go_wp2_with fail
                refine (DrawEntryText_any Amo cmo mo _ hl2 hmmo (hSmo.below hB).all).mono ?_
                rintro e w61 ⟨x, hx, rfl, hb⟩
                replace hB := Below.on' hB hb
                clear hb
                have hxm : x.t.size ≤ maxLen := by unfold maxLen; omega
                have bx := BN.new w61 #[.int .i64 x.r, .int .i64 x.n, .int .i64 x.m, .string x.t] 33 _ rfl
                replace hB := Below.lay hB (.cells #[.int .i64 x.r, .int .i64 x.n, .int .i64 x.m, .string x.t] 33)
                have cTi := fun W (hT : TabW W) => EntryText_impl x W hxm hT
                have cTs := fun W => EntryText_spec x W hxm
                have cI := fun W => IsEntry_im x.r x.n x.m x.t hxm W
                have f4 : entB x.r x.n x.m x.t = true → (lineTT x).size ≤ 1048576 ∧ (lineT x).data.toList = (lineTT x).data.toList ∧ okE x := fun h => by
                  have h1 : lineTT x = lineT x := by rw [lineTT, if_pos h]
                  have h2 := line_len h
                  rw [h1]
                  exact ⟨by omega, rfl, h⟩
                generalize lineTT x = tx at cTi cTs f4
                generalize hge : entB x.r x.n x.m x.t = eb at cTi cTs cI f4
                replace f4 := Lib.hid f4
                clear hge hx hxm
                have cx0 := (bx 0 _ rfl).1
                have cx1 := (bx 1 _ rfl).1
                have cx2 := (bx 2 _ rfl).1
                have cx3 := (bx 3 _ rfl).1
                go_wp2_with fail
                refine (cTi _ (hT.below hB)).mono ?_
                rintro e w62 ⟨rfl, hb⟩
                replace hB := Below.on' hB hb
                replace bx := bx.below (by simp) hb
                clear cx0 cx1 cx2 cx3
                clear hb
                have cx0 := (bx 0 _ rfl).1
                have cx1 := (bx 1 _ rfl).1
                have cx2 := (bx 2 _ rfl).1
                have cx3 := (bx 3 _ rfl).1
                go_wp2_with fail
                refine (cTs _).mono ?_
                rintro e w63 ⟨rfl, hb⟩
                replace hB := Below.on' hB hb
                replace bx := bx.below (by simp) hb
                clear cx0 cx1 cx2 cx3
                clear hb
                clear cTi cTs
                go_wp2_with fail
                refine (DrawParseEntry_any Amo cmo mo _ hl2 hmmo (hSmo.below hB).all).mono ?_
                rintro e w64 ⟨s, hs, rfl, hb⟩
                replace hB := Below.on' hB hb
                replace bx := bx.below (by simp) hb
                clear hb
                go_wp2_with fail
                refine (ParseEntry_impl s hs _ (hS.below hB) (hX.below hB)).mono ?_
                rintro e w65 ⟨y, b, rfl, HR, hb⟩
                replace hB := Below.on' hB hb
                replace bx := bx.below (by simp) hb
                clear hb
                have by_ := BN.new w65 #[.int .i64 y.r, .int .i64 y.n, .int .i64 y.m, .string y.t] 33 _ rfl
                replace bx := bx.alloc (by simp) (.cells #[.int .i64 y.r, .int .i64 y.n, .int .i64 y.m, .string y.t] 33)
                replace hB := Below.lay hB (.cells #[.int .i64 y.r, .int .i64 y.n, .int .i64 y.m, .string y.t] 33)
                go_wp2_with fail
                refine (ParseEntry_spec s hs _).mono ?_
                rintro e w66 ⟨yq, b2, rfl, HR2, hb⟩
                replace hB := Below.on' hB hb
                replace bx := bx.below (by simp) hb
                replace by_ := by_.below (by simp) hb
                clear hb
                have hq : yq = y ∧ b2 = b := by
                  obtain ⟨a1, a2, a3⟩ := HR.out
                  obtain ⟨c1, c2, c3⟩ := HR2.out
                  cases b with
                  | true =>
                    obtain ⟨g1, g2⟩ := a1 rfl
                    obtain ⟨g3, g4⟩ := c3 _ g1 g2
                    exact ⟨g4, g3⟩
                  | false =>
                    cases b2 with
                    | true =>
                      obtain ⟨g1, g2⟩ := c1 rfl
                      obtain ⟨g3, _⟩ := a3 _ g1 g2
                      cases g3
                    | false => exact ⟨(c2 rfl).trans (a2 rfl).symm, rfl⟩
                obtain ⟨rfl, rfl⟩ := hq
                clear HR HR2 hs
                have bz := BN.new w66 #[.int .i64 yq.r, .int .i64 yq.n, .int .i64 yq.m, .string yq.t] 33 _ rfl
                replace bx := bx.alloc (by simp) (.cells #[.int .i64 yq.r, .int .i64 yq.n, .int .i64 yq.m, .string yq.t] 33)
                replace by_ := by_.alloc (by simp) (.cells #[.int .i64 yq.r, .int .i64 yq.n, .int .i64 yq.m, .string yq.t] 33)
                replace hB := Below.lay hB (.cells #[.int .i64 yq.r, .int .i64 yq.n, .int .i64 yq.m, .string yq.t] 33)
                go_wp2_with fail
                refine (DrawCutLog_any Amo cmo mo _ hl2 hmmo (hSmo.below hB).all).mono ?_
                rintro e w67 ⟨B4, d4, c, n, rfl, hE1, hb⟩
                replace hB := Below.on' hB hb
                replace bx := bx.below (by simp) hb
                replace by_ := by_.below (by simp) hb
                replace bz := bz.below (by simp) hb
                clear hb
                have hc : LM w67 B4 d4 c := hE1.lm
                clear hE1 hSmo
                have cCi := fun W (h1 : LM W B4 d4 c) => CutLog_impl B4 d4 c n W h1.1 h1.2.2.1 h1.2.2.2 h1.2.1
                have cCs := fun W (h1 : LM W B4 d4 c) => CutLog_spec B4 d4 c n W h1.1 h1.2.2.1 h1.2.2.2 h1.2.1
                have hCl : (cutR c n).length ≤ 1048576 := Nat.le_trans (cutR_len c n) hc.1
                have f5 : cutOk c n = true → ((cutR c n).length : Int) = n := fun h => by
                  rw [cutR, if_pos h]
                  unfold cutOk inB at h
                  simp only [Bool.and_eq_true, decide_eq_true_eq] at h
                  simp
                  omega
                generalize cutR c n = R at cCi cCs hCl f5
                generalize cutOk c n = ck at cCi cCs f5
                replace f5 := Lib.hid f5
                go_wp2_with fail
                refine (cCi _ hc).mono ?_
                rintro e w68 ⟨Q1, q1, rfl, hQ1, _, hb⟩
                replace hc := hc.below hb
                replace hB := Below.on' hB hb
                replace bx := bx.below (by simp) hb
                replace by_ := by_.below (by simp) hb
                replace bz := bz.below (by simp) hb
                clear hb
                go_wp2_with fail
                refine (cCs _ hc).mono ?_
                rintro e w69 ⟨Q2, q2, rfl, hQ2, _, hb⟩
                replace hQ1 := hQ1.below hb
                replace bx := bx.below (by simp) hb
                replace by_ := by_.below (by simp) hb
                replace bz := bz.below (by simp) hb
                replace hB := Below.on' hB hb
                clear hb cCi cCs hc
                go_upto_region 51 with fail
                go_cut [290] from 52 (fun v_ wx => v_ = .bool false ∧ Below w.heap.size w wx ∧ BN w61.heap.size [.int .i64 x.r, .int .i64 x.n, .int .i64 x.m, .string x.t] wx)
                case first =>
                  as_aux_lemma =>
                    clear f4 f5
                    have cy0 := (by_ 0 _ rfl).1
                    have cy1 := (by_ 1 _ rfl).1
                    have cy2 := (by_ 2 _ rfl).1
                    have cy3 := (by_ 3 _ rfl).1
                    have cz0 := (bz 0 _ rfl).1
                    have cz1 := (bz 1 _ rfl).1
                    have cz2 := (bz 2 _ rfl).1
                    have cz3 := (bz 3 _ rfl).1
                    have hneq := neqEnt yq.r yq.n yq.m yq.t
                    go_wp2_with fail
                    refine (pSameEntries_any _ _ _ _ _ _ _ _ R _ hCl hQ1 hQ2).mono ?_
                    rintro e v1 ⟨rfl, hb⟩
                    replace bx := bx.below (by simp) hb
                    replace hB := Below.on' hB hb
                    clear hb hQ1 hQ2 by_ bz hneq cy0 cy1 cy2 cy3 cz0 cz1 cz2 cz3
                    have cx0 := (bx 0 _ rfl).1
                    have cx1 := (bx 1 _ rfl).1
                    have cx2 := (bx 2 _ rfl).1
                    have cx3 := (bx 3 _ rfl).1
                    go_wp2_with fail
                    refine (cI _).mono ?_
                    rintro e v2 ⟨rfl, hb⟩
                    replace bx := bx.below (by simp) hb
                    replace hB := Below.on' hB hb
                    clear hb cI cx0 cx1 cx2 cx3
                    go_wp2_with fail
                    go_meet
                    exact ⟨rfl, hB, bx⟩
                case rest =>
                  obtain ⟨rfl, hI⟩ := hcut
                  clear hB bx by_ bz hQ1 hQ2 cI hCl
                  go_upto_if 291 with fail
                  go_cut [4] from 312 (fun v_ wx => v_ = .bool false ∧ Below w.heap.size w wx)
                  case first =>
                    as_aux_lemma =>
                      obtain ⟨hB, bx⟩ := hI
                      cases eb with
                      | false =>
                        clear f4 f5
                        go_wp2_with fail
                        go_meet
                        exact ⟨rfl, hB⟩
                      | true =>
                        obtain ⟨g1, g2, g3⟩ := f4.out rfl
                        have cP := fun W (hS : Said W) (hX : MaxL W) => ParseEntry_impl tx g1 W hS hX
                        clear f4 f5
                        go_wp2_with fail
                        refine (cP _ (hS.below hB) (hX.below hB)).mono ?_
                        rintro e v1 ⟨y, b, rfl, HR, hb⟩
                        replace bx := bx.below (by simp) hb
                        replace hB := Below.on' hB hb
                        clear hb cP
                        obtain ⟨rfl, rfl⟩ := HR.out.2.2 x g3 g2
                        clear HR g1 g2 g3
                        have bq := BN.new v1 #[.int .i64 y.r, .int .i64 y.n, .int .i64 y.m, .string y.t] 33 _ rfl
                        replace bx := bx.alloc (by simp) (.cells #[.int .i64 y.r, .int .i64 y.n, .int .i64 y.m, .string y.t] 33)
                        replace hB := Below.lay hB (.cells #[.int .i64 y.r, .int .i64 y.n, .int .i64 y.m, .string y.t] 33)
                        have hneq := neqEnt y.r y.n y.m y.t
                        have cx0 := (bx 0 _ rfl).1
                        have cx1 := (bx 1 _ rfl).1
                        have cx2 := (bx 2 _ rfl).1
                        have cx3 := (bx 3 _ rfl).1
                        have cq0 := (bq 0 _ rfl).1
                        have cq1 := (bq 1 _ rfl).1
                        have cq2 := (bq 2 _ rfl).1
                        have cq3 := (bq 3 _ rfl).1
                        go_wp2_with fail
                        go_meet
                        exact ⟨rfl, hB⟩
                  case rest =>
                    obtain ⟨rfl, hI⟩ := hcut
                    clear f4
                    cases ck with
                    | false =>
                      clear f5
                      go_wp2
                      go_ret
                      exact ⟨rfl, hI⟩
                    | true =>
                      have e1 := f5.out rfl
                      have e2 : ((R.length : Int) == n) = true := by simp [e1]
                      clear e1 f5
                      go_wp2
                      go_ret
                      exact ⟨rfl, hI⟩

theorem lay_met (os : Os) (args : Array Value) : laidMetH Tryz.prog Rows.fnEntriesRow.laid ((World.laidAll Tryz.prog os Rows.fnEntriesRow.laid).forCall (fun _ _ => 0) ⟨#[], args, []⟩).memory := by
  rw [MakeChecks.laidMetH_plain _ _ _ (by kernel_rfl)]
  exact laidMet_laidAll _ (by kernel_rfl) (by kernel_rfl)
set_option maxRecDepth 100000 in
theorem lifted (os : Os) (started : os.Started) (H : Type) (enc : TypeId × Value → H) :
    ReturnsInHanded {} Tryz.checked os 4 .any (fun w args => (Rows.fnEntriesSpec.pre enc Tryz.prog Tryz.f4 [] false w args ∧ laidMetH Tryz.prog Rows.fnEntriesRow.laid w) ∧ sizedMet enc Tryz.prog Tryz.f4 (OpenSpec.ofChange Rows.fnEntriesSpec) false w args) (Rows.fnEntriesSpec.post enc Tryz.prog Tryz.f4 false true false false) := by
  refine law_liftedD (C := Tryz.checked) own started (by kernel_rfl) Tryz.func4
    (ChangeSpec.witness_shaped (enc := enc) (C := Tryz.checked) (os := os) (X := fun w _ => laidMetH Tryz.prog Rows.fnEntriesRow.laid w) false (World.laidAll Tryz.prog os Rows.fnEntriesRow.laid) #[.slice none 0 0, .slice none 0 0] 8 (World.laidAll_os _ _ _) (World.shaped_of_ZipB (by kernel_rfl) (by kernel_rfl)) (by kernel_rfl) (by kernel_rfl) (by kernel_rfl) (lay_met os _))
    laidOut 4 (by kernel_rfl) Tryz.underlying4 (by kernel_rfl) rfl ?_ ?_
  · intro ds hds
    have hn : Tryz.f4.params.size = 2 := by kernel_rfl
    rw [hn] at hds
    match ds, hds with
    | [d0, d1], _ => rfl
  intro W base args ds p hval0 hA0 hlt hnf hL hSh
  have hval : ∀ (j : Nat) t v, Tryz.f4.params[j]? = some t → args[j]? = some v → Value.okWide Tryz.prog W .any base t v := hval0
  have hA : DataW.TrodAll enc Tryz.prog W 0 (fun _ => true) true Tryz.f4.params.toList args.toList ds p := hA0
  clear hval0 hA0
  rw [Tryz.params4] at hA hval
  obtain ⟨v0, vs0, d0, ds0, p0, q0, hargs, rfl, rfl, h0, r0⟩ := trodAll_cons hA
  obtain ⟨v1, vs1, d1, ds1, p1, q1, rfl, rfl, rfl, h1, r1⟩ := trodAll_cons r0
  obtain ⟨rfl, rfl, rfl⟩ := trodAll_nil r1
  obtain rfl : args = #[v0, v1] := by cases args; simp_all
  obtain ⟨Aco, cco, co, rfl, hlco, hmco, hSco⟩ := Byt.openedS (hval 0 22 v0 rfl rfl) h0 (fun x hx => hlt x (by simp [hx])) (fun b o h => hnf b o (by simp [h]))
  obtain ⟨Amo, cmo, mo, rfl, hlmo, hmmo, hSmo⟩ := Byt.openedS (hval 1 22 v1 rfl rfl) h1 (fun x hx => hlt x (by simp [hx])) (fun b o h => hnf b o (by simp [h]))
  exact walk Aco cco co hlco hmco Amo cmo mo hlmo hmmo W hSco hSmo hL hSh

theorem over : Rows.fnEntriesRow.holds Tryz.pinned (OpenSpec.ofChange Rows.fnEntriesSpec) :=
  OpenClaim.holds_of_wide 4 Tryz.f4 rfl rfl rfl rfl rfl rfl rfl ⟨rfl, rfl, rfl, rfl, rfl⟩ rfl rfl rfl rfl rfl (by kernel_rfl) Tryz.func4 (by kernel_rfl)
    (of_decide_eq_true (by kernel_rfl)) (by unfold Func.isWrapper; first | (rw [if_pos (by decide +kernel)]; kernel_rfl) | (rw [if_neg (by decide +kernel)]; exact ⟨rfl, rfl⟩))
    (fun os started H enc _ => lifted os started H enc)

theorem proved : Rows.FnEntriesCardSaid :=
  Claim7.holds_tied_plain_at .later [] [.data, .data, .data, .data, .sentinel, .sentinel, .pinned] true Rows.fnEntriesCard.stood.harness Rows.fnEntriesCard.stood.looks
    over (fun _ h => by cases h) (by kernel_rfl) (fun _ h => by cases h) fnEntries_row_tie rfl ⟨rfl, rfl⟩ (by kernel_rfl) rfl
    (fun f fn hf hfn => by
      obtain rfl : f = 4 := Option.some.inj ((show Tryz.prog.funcNamed "loop.example/g01020/laws.FnEntries" = some 4 by kernel_rfl).symm.trans hf) |>.symm
      obtain rfl : fn = Tryz.f4 := (Option.some.inj (Tryz.func4.symm.trans hfn)).symm
      exact ⟨by kernel_rfl, fun j t ht => by
        rw [Tryz.params4] at ht
        have hm : t ∈ [22] := by simpa using Array.mem_of_getElem? ht
        have hall : ([22].all fun u => !Tryz.prog.wantsStandIn u) = true := by kernel_rfl
        exact (show Tryz.prog.wantsStandIn t = false by simpa using List.all_eq_true.1 hall t hm)⟩)
    (by kernel_rfl)
#print axioms proved
end Go.Proofs.YtmdmcjhodhphgaaGreatDoor.lawEntries

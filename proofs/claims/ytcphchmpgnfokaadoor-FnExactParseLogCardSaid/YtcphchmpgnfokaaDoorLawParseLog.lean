/- FnExactParseLog: the program's ParseLog returns what the reference's returns, for all arguments. No conditions beyond the card's own: the listed variables are those that the program's text lays. -/
import Derived.Test.YtcphchmpgnfokaaDoorPl
import Derived.Test.YtcphchmpgnfokaaDoorEntMk
import Derived.Test.YtcphchmpgnfokaaDoorEntArg
import Derived.Test.YtcphchmpgnfokaaDoorSaid
import Derived.Test.YtcphchmpgnfokaaDoorArg
import Derived.Test.YtcphchmpgnfokaaDoorTie
import Derived.Test.YtcphchmpgnfokaaDoorCards
import Derived.SevenTiedAt
import Derived.Lay
import Derived.ChangeMaps5
namespace Go.Proofs.YtcphchmpgnfokaaDoor.lawParseLog
open Go.ChangeShapes Go.WideShapes Go.ChangeAt Go.RowKit Go.Joins Go.Proofs.YtcphchmpgnfokaaDoor

set_option maxHeartbeats 4000000 in
theorem walk (s : ByteArray) (_hs : s.size ≤ maxLen) (w : World)  (hL : laidMetH Tryd.prog Rows.fnExactParseLogRow.laid w) (hSh : w.ShapedOpen Tryd.prog) : Calls Tryd.prog 11 #[.string s] w fun e w' => e = .returned (.bool true) ∧ Below w.heap.size w w' := by
  have hT : Said w := by
    have h : laidMet Tryd.prog Rows.fnExactParseLogRow.laid w := by rw [MakeChecks.laidMetH_plain _ _ _ (by kernel_rfl)] at hL; exact hL
    exact said_at h.tail.tail h.tail.tail.tail.tail
  clear hL
  have hX : MaxL w := maxL_of hSh
  clear hSh
  obtain ⟨pl, pb, hg⟩ := LogOf.ex s
  replace hg := Lib.hid hg
  go_enter Tryd.func11, Tryd.ntmps11
  by_cases hbigs : 1048576 < s.size
  · have hbig' : (1048576 : Int) < s.size := by omega
    go_wp2
    go_ret
    exact ⟨rfl, Below.refl _ _⟩
  have hs's : s.size ≤ 1048576 := by omega
  have hs''s : (s.size : Int) ≤ 1048576 := by omega
  clear hbigs
  have hLR0 : (pl).length ≤ 1048576 := hg.out.len
  go_wp2_with fail
  refine (ParseLog_spec s pl pb hg.out _ hs's).mono ?_
  rintro e w1 ⟨Aa0, ca0, rfl, hU0, hcc0, hb⟩
  have hb1 : Below w.heap.size w w1 := Below.on' (by go_grown) hb
  clear hb
  have hB1 : Below w.heap.size w w1 := hb1
  have z1 : w.heap.size ≤ w1.heap.size := hb1.size
  have hTa0 := hU0.mono (lo' := w.heap.size) (hi' := w1.heap.size) (by first | exact Nat.le_refl _ | (simp; done) | (simp; omega)) (Nat.le_refl _) (by first | exact Nat.le_refl _ | omega)
  clear hU0 hcc0
  go_wp2_with fail
  refine (ParseLog_impl s pl pb hg.out _ hs's (hT.below hB1) (hX.below hB1)).mono ?_
  rintro e w2 ⟨Ab0, cb0, rfl, hU0, hcc0, hb⟩
  have hb2 : Below w1.heap.size w1 w2 := Below.on' (by go_grown) hb
  clear hb
  have hB2 : Below w.heap.size w w2 := Below.on' hB1 hb2
  have z2 : w1.heap.size ≤ w2.heap.size := hb2.size
  replace hTa0 := hTa0.below hb2
  have hTb0 := hU0.mono (lo' := w1.heap.size) (hi' := w2.heap.size) (by first | exact Nat.le_refl _ | (simp; done) | (simp; omega)) (Nat.le_refl _) (by first | exact Nat.le_refl _ | omega)
  clear hU0 hcc0
  go_wp2_with fail
  refine (eqEntryS_same _ _ _ _ _ _ _ _ _ _ hLR0 hTb0 hTa0).mono ?_
  rintro e w3 ⟨rfl, hb⟩
  have hb3 : Below w2.heap.size w2 w3 := Below.on' (by go_grown) hb
  clear hb
  have hB3 : Below w.heap.size w w3 := Below.on' hB2 hb3
  have z3 : w2.heap.size ≤ w3.heap.size := hb3.size
  replace hTa0 := hTa0.below hb3
  replace hTb0 := hTb0.below hb3
  go_wp2_with fail
  refine (markEntryS_any _ _ _ _ _ _ _ hLR0 (by omega) (by omega) hTb0).mono ?_
  rintro e w4 ⟨rfl, hM, hF⟩
  have hB4 : Below w.heap.size w w4 := hB3.trans (hF.below (by omega) (by omega))
  have z4 : w3.heap.size ≤ w4.heap.size := hF.size
  replace hTa0 := hTa0.fr hF (by omega)
  clear hF
  replace hTb0 := hM
  clear hM
  go_wp2_with fail
  refine (heldEntryS_any _ _ _ _ _ _ _ hLR0 (by omega) (by omega) hTb0).mono ?_
  rintro e w5 ⟨rfl, hb⟩
  have hb5 : Below w4.heap.size w4 w5 := Below.on' (by go_grown) hb
  clear hb
  have hB5 : Below w.heap.size w w5 := Below.on' hB4 hb5
  have z5 : w4.heap.size ≤ w5.heap.size := hb5.size
  replace hTa0 := hTa0.below hb5
  replace hTb0 := hTb0.below hb5
  go_wp2_with fail
  refine (ParseLog_impl s pl pb hg.out _ hs's (hT.below hB5) (hX.below hB5)).mono ?_
  rintro e w6 ⟨Ah0, ch0, rfl, hU0, hcc0, hb⟩
  have hb6 : Below w5.heap.size w5 w6 := Below.on' (by go_grown) hb
  clear hb
  have hB6 : Below w.heap.size w w6 := Below.on' hB5 hb6
  have z6 : w5.heap.size ≤ w6.heap.size := hb6.size
  replace hTa0 := hTa0.below hb6
  replace hTb0 := hTb0.below hb6
  have hTh0 := hU0.mono (lo' := w5.heap.size) (hi' := w6.heap.size) (by first | exact Nat.le_refl _ | (simp; done) | (simp; omega)) (Nat.le_refl _) (by first | exact Nat.le_refl _ | omega)
  clear hU0 hcc0
  go_wp2_with fail
  refine (eqEntryS_same _ _ _ _ _ _ _ _ _ _ hLR0 hTh0 hTa0).mono ?_
  rintro e w7 ⟨rfl, hb⟩
  have hb7 : Below w6.heap.size w6 w7 := Below.on' (by go_grown) hb
  clear hb
  have hB7 : Below w.heap.size w w7 := Below.on' hB6 hb7
  have z7 : w6.heap.size ≤ w7.heap.size := hb7.size
  replace hTa0 := hTa0.below hb7
  replace hTb0 := hTb0.below hb7
  replace hTh0 := hTh0.below hb7
  clear hTh0
  clear hTa0
  go_wp2_with fail
  refine (heldEntryS_any _ _ _ _ _ _ _ hLR0 (by omega) (by omega) hTb0).mono ?_
  rintro e w8 ⟨rfl, hb⟩
  have hb8 : Below w7.heap.size w7 w8 := Below.on' (by go_grown) hb
  clear hb
  have hB8 : Below w.heap.size w w8 := Below.on' hB7 hb8
  have z8 : w7.heap.size ≤ w8.heap.size := hb8.size
  replace hTb0 := hTb0.below hb8
  go_wp2_with fail
  go_ret
  exact ⟨rfl, hB8⟩

theorem lay_met (os : Os) (args : Array Value) : laidMetH Tryd.prog Rows.fnExactParseLogRow.laid ((World.laidAll Tryd.prog os Rows.fnExactParseLogRow.laid).forCall (fun _ _ => 0) ⟨#[], args, []⟩).memory := by
  rw [MakeChecks.laidMetH_plain _ _ _ (by kernel_rfl)]
  exact laidMet_laidAll _ (by kernel_rfl) (by kernel_rfl)
set_option maxRecDepth 100000 in
theorem lifted (os : Os) (started : os.Started) (H : Type) (enc : TypeId × Value → H) :
    ReturnsInHanded {} Tryd.checked os 11 .any (fun w args => (Rows.fnExactParseLogSpec.pre enc Tryd.prog Tryd.f11 [] false w args ∧ laidMetH Tryd.prog Rows.fnExactParseLogRow.laid w) ∧ sizedMet enc Tryd.prog Tryd.f11 (OpenSpec.ofChange Rows.fnExactParseLogSpec) false w args) (Rows.fnExactParseLogSpec.post enc Tryd.prog Tryd.f11 false true false false) := by
  refine law_liftedD (C := Tryd.checked) own started (by kernel_rfl) Tryd.func11
    (ChangeSpec.witness_shaped (enc := enc) (C := Tryd.checked) (os := os) (X := fun w _ => laidMetH Tryd.prog Rows.fnExactParseLogRow.laid w) false (World.laidAll Tryd.prog os Rows.fnExactParseLogRow.laid) #[.string ⟨#[]⟩] 8 (World.laidAll_os _ _ _) (World.shaped_of_ZipB (by kernel_rfl) (by kernel_rfl)) (by kernel_rfl) (by kernel_rfl) (by kernel_rfl) (lay_met os _))
    laidOut 4 (by kernel_rfl) Tryd.underlying4 (by kernel_rfl) rfl ?_ ?_
  · intro ds hds
    have hn : Tryd.f11.params.size = 1 := by kernel_rfl
    rw [hn] at hds
    match ds, hds with
    | [d0], _ => rfl
  intro W base args ds p hval0 hA0 hlt hnf hL hSh
  have hval : ∀ (j : Nat) t v, Tryd.f11.params[j]? = some t → args[j]? = some v → Value.okWide Tryd.prog W .any base t v := hval0
  have hA : DataW.TrodAll enc Tryd.prog W 0 (fun _ => true) true Tryd.f11.params.toList args.toList ds p := hA0
  clear hval0 hA0
  rw [Tryd.params11] at hA hval
  obtain ⟨v0, vs0, d0, ds0, p0, q0, hargs, rfl, rfl, h0, r0⟩ := trodAll_cons hA
  obtain ⟨rfl, rfl, rfl⟩ := trodAll_nil r0
  obtain rfl : args = #[v0] := by cases args; simp_all
  obtain ⟨s, rfl, rfl, rfl, hs⟩ := Go.ChangeMaps.open_string Tryd.underlying9 (hval 0 9 v0 rfl rfl) h0
  exact walk s hs W hL hSh

theorem over : Rows.fnExactParseLogRow.holds Tryd.pinned (OpenSpec.ofChange Rows.fnExactParseLogSpec) :=
  OpenClaim.holds_of_wide 11 Tryd.f11 rfl rfl rfl rfl rfl rfl rfl ⟨rfl, rfl, rfl, rfl, rfl⟩ rfl rfl rfl rfl rfl (by kernel_rfl) Tryd.func11 (by kernel_rfl)
    (of_decide_eq_true (by kernel_rfl)) (by unfold Func.isWrapper; first | (rw [if_pos (by decide +kernel)]; kernel_rfl) | (rw [if_neg (by decide +kernel)]; exact ⟨rfl, rfl⟩))
    (fun os started H enc _ => lifted os started H enc)

theorem proved : Rows.FnExactParseLogCardSaid :=
  Claim7.holds_tied_plain_at .later [] [.data, .data, .data, .data, .sentinel, .sentinel, .pinned] true Rows.fnExactParseLogCard.stood.harness true
    over (fun _ h => by cases h) (by kernel_rfl) (fun _ h => by cases h) fnExactParseLog_row_tie rfl ⟨rfl, rfl⟩ (by kernel_rfl) rfl
    (fun f fn hf hfn => by
      obtain rfl : f = 11 := Option.some.inj ((show Tryd.prog.funcNamed "loop.example/g01020/laws.FnExactParseLog" = some 11 by kernel_rfl).symm.trans hf) |>.symm
      obtain rfl : fn = Tryd.f11 := (Option.some.inj (Tryd.func11.symm.trans hfn)).symm
      exact ⟨by kernel_rfl, fun j t ht => by
        rw [Tryd.params11] at ht
        have hm : t ∈ [9] := by simpa using Array.mem_of_getElem? ht
        have hall : ([9].all fun u => !Tryd.prog.wantsStandIn u) = true := by kernel_rfl
        exact (show Tryd.prog.wantsStandIn t = false by simpa using List.all_eq_true.1 hall t hm)⟩)
    (by kernel_rfl)
#print axioms proved
end Go.Proofs.YtcphchmpgnfokaaDoor.lawParseLog

/- FnExactHistoryText: the program's HistoryText returns what the reference's returns, for all arguments. No conditions beyond the card's own: the listed variables are those that the program's text lays. -/
import Derived.Test.YtcphchmpgnfokaaDoorHisT
import Derived.Test.YtcphchmpgnfokaaDoorEntArg
import Derived.Test.YtcphchmpgnfokaaDoorArg
import Derived.Test.YtcphchmpgnfokaaDoorTie
import Derived.Test.YtcphchmpgnfokaaDoorCards
import Derived.SevenTiedAt
import Derived.Lay
namespace Go.Proofs.YtcphchmpgnfokaaDoor.lawHistoryText
open Go.ChangeShapes Go.WideShapes Go.ChangeAt Go.RowKit Go.Joins Go.Proofs.YtcphchmpgnfokaaDoor

set_option maxHeartbeats 4000000 in
theorem walk (Ah : Option Addr) (ch : Nat) (h : List Ent) (hlh : h.length ≤ maxLen) (hmh : ∀ x ∈ h, x.t.size ≤ maxLen) (w : World) (hSh : Ents w 0 w.heap.size Ah h) (hL : laidMetH Tryd.prog Rows.fnExactHistoryTextRow.laid w) : Calls Tryd.prog 7 #[.slice Ah h.length ch] w fun e w' => e = .returned (.bool true) ∧ Below w.heap.size w w' := by
  have hT : TabW w := by
    have h : laidMet Tryd.prog Rows.fnExactHistoryTextRow.laid w := by rw [MakeChecks.laidMetH_plain _ _ _ (by kernel_rfl)] at hL; exact hL
    exact tab_at h.tail.tail
  clear hL
  go_enter Tryd.func7, Tryd.ntmps7
  go_wp2_with fail
  refine (szEntryS_any Ah ch h _ _ hlh hmh hSh (by omega) (by omega)).mono ?_
  rintro e w1 ⟨r0, rfl, hr0, hrest, hb⟩
  have hb1 : Below w.heap.size w w1 := Below.on' (by go_grown) hb
  clear hb
  have hB1 : Below w.heap.size w w1 := hb1
  have z1 : w.heap.size ≤ w1.heap.size := hb1.size
  by_cases h0r0 : r0 < 0
  · go_wp2
    go_ret
    exact ⟨rfl, hB1⟩
  obtain ⟨hl'h, hm'h⟩ := hrest (by omega)
  clear hrest
  go_wp2_with fail
  refine (toEntryS_any Ah ch h _ hl'h (hSh.below hB1).all).mono ?_
  rintro e w2 ⟨gt0, rfl, hU, hb⟩
  have hb2 : Below w1.heap.size w1 w2 := Below.on' (by go_grown) hb
  clear hb
  have hB2 : Below w.heap.size w w2 := Below.on' hB1 hb2
  have z2 : w1.heap.size ≤ w2.heap.size := hb2.size
  have hTt0 := hU.mono (lo' := w1.heap.size) (hi' := w2.heap.size) (by first | exact Nat.le_refl _ | (simp; done) | (simp; omega)) (Nat.le_refl _) (Nat.le_refl _)
  clear hU
  go_wp2_with fail
  refine (HistoryText_spec _ _ h _ hl'h hm'h hTt0.all (Nat.le_refl _)).mono ?_
  rintro e w3 ⟨rfl, hb⟩
  have hb3 : Below w2.heap.size w2 w3 := Below.on' (by go_grown) hb
  clear hb
  have hB3 : Below w.heap.size w w3 := Below.on' hB2 hb3
  have z3 : w2.heap.size ≤ w3.heap.size := hb3.size
  replace hTt0 := hTt0.below hb3
  clear hTt0
  go_wp2_with fail
  refine (toEntryS_any Ah ch h _ hl'h (hSh.below hB3).all).mono ?_
  rintro e w4 ⟨gx0, rfl, hU, hb⟩
  have hb4 : Below w3.heap.size w3 w4 := Below.on' (by go_grown) hb
  clear hb
  have hB4 : Below w.heap.size w w4 := Below.on' hB3 hb4
  have z4 : w3.heap.size ≤ w4.heap.size := hb4.size
  have hTx0 := hU.mono (lo' := w3.heap.size) (hi' := w4.heap.size) (by first | exact Nat.le_refl _ | (simp; done) | (simp; omega)) (Nat.le_refl _) (Nat.le_refl _)
  clear hU
  go_wp2_with fail
  refine (HistoryText_impl _ _ h _ hl'h hm'h hTx0.all (Nat.le_refl _) (hT.below hB4)).mono ?_
  rintro e w5 ⟨rfl, hb⟩
  have hb5 : Below w4.heap.size w4 w5 := Below.on' (by go_grown) hb
  clear hb
  have hB5 : Below w.heap.size w w5 := Below.on' hB4 hb5
  have z5 : w4.heap.size ≤ w5.heap.size := hb5.size
  replace hTx0 := hTx0.below hb5
  go_wp2_with fail
  refine (toEntryS_any Ah ch h _ hl'h (hSh.below hB5).all).mono ?_
  rintro e w6 ⟨gy, rfl, hU, hb⟩
  have hb6 : Below w5.heap.size w5 w6 := Below.on' (by go_grown) hb
  clear hb
  have hB6 : Below w.heap.size w w6 := Below.on' hB5 hb6
  have z6 : w5.heap.size ≤ w6.heap.size := hb6.size
  replace hTx0 := hTx0.below hb6
  have hTy := hU.mono (lo' := w5.heap.size) (hi' := w6.heap.size) (by first | exact Nat.le_refl _ | (simp; done) | (simp; omega)) (Nat.le_refl _) (Nat.le_refl _)
  clear hU
  go_wp2_with fail
  refine (eqEntryS_same _ _ _ _ _ _ _ _ _ _ hl'h hTx0 hTy).mono ?_
  rintro e w7 ⟨rfl, hb⟩
  have hb7 : Below w6.heap.size w6 w7 := Below.on' (by go_grown) hb
  clear hb
  have hB7 : Below w.heap.size w w7 := Below.on' hB6 hb7
  have z7 : w6.heap.size ≤ w7.heap.size := hb7.size
  replace hTx0 := hTx0.below hb7
  replace hTy := hTy.below hb7
  clear hTy
  go_wp2_with fail
  go_ret
  exact ⟨rfl, hB7⟩

theorem lay_met (os : Os) (args : Array Value) : laidMetH Tryd.prog Rows.fnExactHistoryTextRow.laid ((World.laidAll Tryd.prog os Rows.fnExactHistoryTextRow.laid).forCall (fun _ _ => 0) ⟨#[], args, []⟩).memory := by
  rw [MakeChecks.laidMetH_plain _ _ _ (by kernel_rfl)]
  exact laidMet_laidAll _ (by kernel_rfl) (by kernel_rfl)
set_option maxRecDepth 100000 in
theorem lifted (os : Os) (started : os.Started) (H : Type) (enc : TypeId × Value → H) :
    ReturnsInHanded {} Tryd.checked os 7 .any (fun w args => (Rows.fnExactHistoryTextSpec.pre enc Tryd.prog Tryd.f7 [] false w args ∧ laidMetH Tryd.prog Rows.fnExactHistoryTextRow.laid w) ∧ sizedMet enc Tryd.prog Tryd.f7 (OpenSpec.ofChange Rows.fnExactHistoryTextSpec) false w args) (Rows.fnExactHistoryTextSpec.post enc Tryd.prog Tryd.f7 false true false false) := by
  refine law_liftedD (C := Tryd.checked) own started (by kernel_rfl) Tryd.func7
    (ChangeSpec.witness_shaped (enc := enc) (C := Tryd.checked) (os := os) (X := fun w _ => laidMetH Tryd.prog Rows.fnExactHistoryTextRow.laid w) false (World.laidAll Tryd.prog os Rows.fnExactHistoryTextRow.laid) #[.slice none 0 0] 8 (World.laidAll_os _ _ _) (World.shaped_of_ZipB (by kernel_rfl) (by kernel_rfl)) (by kernel_rfl) (by kernel_rfl) (by kernel_rfl) (lay_met os _))
    laidOut 4 (by kernel_rfl) Tryd.underlying4 (by kernel_rfl) rfl ?_ ?_
  · intro ds hds
    have hn : Tryd.f7.params.size = 1 := by kernel_rfl
    rw [hn] at hds
    match ds, hds with
    | [d0], _ => rfl
  intro W base args ds p hval0 hA0 hlt hnf hL _hSh
  have hval : ∀ (j : Nat) t v, Tryd.f7.params[j]? = some t → args[j]? = some v → Value.okWide Tryd.prog W .any base t v := hval0
  have hA : DataW.TrodAll enc Tryd.prog W 0 (fun _ => true) true Tryd.f7.params.toList args.toList ds p := hA0
  clear hval0 hA0
  rw [Tryd.params7] at hA hval
  obtain ⟨v0, vs0, d0, ds0, p0, q0, hargs, rfl, rfl, h0, r0⟩ := trodAll_cons hA
  obtain ⟨rfl, rfl, rfl⟩ := trodAll_nil r0
  obtain rfl : args = #[v0] := by cases args; simp_all
  obtain ⟨Ah, ch, h, rfl, hlh, hmh, hSh⟩ := Ent.openedS (hval 0 36 v0 rfl rfl) h0 (fun x hx => hlt x (by simp [hx])) (fun b o h => hnf b o (by simp [h]))
  exact walk Ah ch h hlh hmh W hSh hL

theorem over : Rows.fnExactHistoryTextRow.holds Tryd.pinned (OpenSpec.ofChange Rows.fnExactHistoryTextSpec) :=
  OpenClaim.holds_of_wide 7 Tryd.f7 rfl rfl rfl rfl rfl rfl rfl ⟨rfl, rfl, rfl, rfl, rfl⟩ rfl rfl rfl rfl rfl (by kernel_rfl) Tryd.func7 (by kernel_rfl)
    (of_decide_eq_true (by kernel_rfl)) (by unfold Func.isWrapper; first | (rw [if_pos (by decide +kernel)]; kernel_rfl) | (rw [if_neg (by decide +kernel)]; exact ⟨rfl, rfl⟩))
    (fun os started H enc _ => lifted os started H enc)

theorem proved : Rows.FnExactHistoryTextCardSaid :=
  Claim7.holds_tied_plain_at .later [] [.data, .data, .data] true Rows.fnExactHistoryTextCard.stood.harness true
    over (fun _ h => by cases h) (by kernel_rfl) (fun _ h => by cases h) fnExactHistoryText_row_tie rfl ⟨rfl, rfl⟩ (by kernel_rfl) rfl
    (fun f fn hf hfn => by
      obtain rfl : f = 7 := Option.some.inj ((show Tryd.prog.funcNamed "loop.example/g01020/laws.FnExactHistoryText" = some 7 by kernel_rfl).symm.trans hf) |>.symm
      obtain rfl : fn = Tryd.f7 := (Option.some.inj (Tryd.func7.symm.trans hfn)).symm
      exact ⟨by kernel_rfl, fun j t ht => by
        rw [Tryd.params7] at ht
        have hm : t ∈ [36] := by simpa using Array.mem_of_getElem? ht
        have hall : ([36].all fun u => !Tryd.prog.wantsStandIn u) = true := by kernel_rfl
        exact (show Tryd.prog.wantsStandIn t = false by simpa using List.all_eq_true.1 hall t hm)⟩)
    (by kernel_rfl)
#print axioms proved
end Go.Proofs.YtcphchmpgnfokaaDoor.lawHistoryText

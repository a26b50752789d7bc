/- FnExactSplitHistory: the program's SplitHistory returns what the reference's returns, for all arguments. No conditions. -/
import Derived.Test.YtbddghbcgolbnaaPlace
import Derived.Test.YtbddghbcgolbnaaEntMk
import Derived.Test.YtbddghbcgolbnaaEntArg
namespace Go.Proofs.Ytbddghbcgolbnaa.lawSplitHistory
open Go.ChangeShapes Go.WideShapes Go.ChangeAt Go.RowKit Go.Joins Go.Proofs.Ytbddghbcgolbnaa

set_option maxHeartbeats 4000000 in
theorem walk (Ah : Option Addr) (ch : Nat) (h : List Ent) (hlh : h.length ≤ maxLen) (hmh : ∀ x ∈ h, x.t.size ≤ maxLen) (w : World) (hSh : Ents w 0 w.heap.size Ah h) : Calls Try.prog 4 #[.slice Ah h.length ch] w fun e w' => e = .returned (.bool true) ∧ Below w.heap.size w w' := by
  go_enter Try.func4, Try.ntmps4
  go_wp2_with fail
  refine (szEntryS_any Ah ch h _ _ hlh hmh hSh (by omega) (by omega)).mono ?_
  rintro e w1 ⟨r0, rfl, hr0, hrest, hb⟩
  have hb1 : Below w.heap.size w w1 := Below.on' (by go_grown) hb
  clear hb
  have hB1 : Below w.heap.size w w1 := hb1
  have z1 : w.heap.size ≤ w1.heap.size := hb1.size
  by_cases h0r0 : r0 < 0
  · go_wp2
    go_ret
    exact ⟨rfl, hB1⟩
  obtain ⟨hl'h, hm'h⟩ := hrest (by omega)
  clear hrest
  have hLR0 : (spl1 h).length ≤ 1048576 := Nat.le_trans (spl1_len h) hl'h
  have hLR1 : (spl2 h).length ≤ 1048576 := Nat.le_trans (spl2_len h) hl'h
  go_wp2_with fail
  refine (toEntryS_any Ah ch h _ hl'h (hSh.below hB1).all).mono ?_
  rintro e w2 ⟨gt0, rfl, hU, hb⟩
  have hb2 : Below w1.heap.size w1 w2 := Below.on' (by go_grown) hb
  clear hb
  have hB2 : Below w.heap.size w w2 := Below.on' hB1 hb2
  have z2 : w1.heap.size ≤ w2.heap.size := hb2.size
  have hTt0 := hU.mono (lo' := w1.heap.size) (hi' := w2.heap.size) (by first | exact Nat.le_refl _ | (simp; done) | (simp; omega)) (Nat.le_refl _) (Nat.le_refl _)
  clear hU
  go_wp2_with fail
  refine (SplitHistory_spec _ _ h _ hl'h hm'h hTt0.all (Nat.le_refl _)).mono ?_
  rintro e w3 ⟨Aa0, ca0, Aa1, ca1, rfl, hU0, hU1, hcc0, hcc1, hb⟩
  have hb3 : Below w2.heap.size w2 w3 := Below.on' (by go_grown) hb
  clear hb
  have hB3 : Below w.heap.size w w3 := Below.on' hB2 hb3
  have z3 : w2.heap.size ≤ w3.heap.size := hb3.size
  replace hTt0 := hTt0.below hb3
  have hTa0 := hU0.mono (lo' := w2.heap.size) (hi' := w3.heap.size) (by first | exact Nat.le_refl _ | (simp; done) | (simp; omega)) (Nat.le_refl _) (by first | exact Nat.le_refl _ | omega)
  clear hU0 hcc0
  have hTa1 := hU1.mono (lo' := w2.heap.size) (hi' := w3.heap.size) (by first | exact Nat.le_refl _ | (simp; done) | (simp; omega)) (Nat.le_refl _) (by first | exact Nat.le_refl _ | omega)
  clear hU1 hcc1
  clear hTt0
  go_wp2_with fail
  refine (toEntryS_any Ah ch h _ hl'h (hSh.below hB3).all).mono ?_
  rintro e w4 ⟨gx0, rfl, hU, hb⟩
  have hb4 : Below w3.heap.size w3 w4 := Below.on' (by go_grown) hb
  clear hb
  have hB4 : Below w.heap.size w w4 := Below.on' hB3 hb4
  have z4 : w3.heap.size ≤ w4.heap.size := hb4.size
  replace hTa0 := hTa0.below hb4
  replace hTa1 := hTa1.below hb4
  have hTx0 := hU.mono (lo' := w3.heap.size) (hi' := w4.heap.size) (by first | exact Nat.le_refl _ | (simp; done) | (simp; omega)) (Nat.le_refl _) (Nat.le_refl _)
  clear hU
  go_wp2_with fail
  refine (SplitHistory_impl _ _ h _ hl'h hm'h hTx0.all (Nat.le_refl _)).mono ?_
  rintro e w5 ⟨Ab0, cb0, Ab1, cb1, midb, rfl, hlob, hhib, hU0, hU1, hcc0, hcc1, hb⟩
  have hb5 : Below w4.heap.size w4 w5 := Below.on' (by go_grown) hb
  clear hb
  have hB5 : Below w.heap.size w w5 := Below.on' hB4 hb5
  have z5 : w4.heap.size ≤ w5.heap.size := hb5.size
  replace hTa0 := hTa0.below hb5
  replace hTa1 := hTa1.below hb5
  replace hTx0 := hTx0.below hb5
  have hTb0 := hU0.mono (lo' := w4.heap.size) (hi' := midb) (by first | exact Nat.le_refl _ | (simp; done) | (simp; omega)) (Nat.le_refl _) (by first | exact Nat.le_refl _ | omega)
  clear hU0 hcc0
  have hTb1 := hU1.mono (lo' := midb) (hi' := w5.heap.size) (by first | exact Nat.le_refl _ | (simp; done) | (simp; omega)) (Nat.le_refl _) (by first | exact Nat.le_refl _ | omega)
  clear hU1 hcc1
  go_wp2_with fail
  refine (eqEntryS_same _ _ _ _ _ _ _ _ _ _ hLR0 hTb0 hTa0).mono ?_
  rintro e w6 ⟨rfl, hb⟩
  have hb6 : Below w5.heap.size w5 w6 := Below.on' (by go_grown) hb
  clear hb
  have hB6 : Below w.heap.size w w6 := Below.on' hB5 hb6
  have z6 : w5.heap.size ≤ w6.heap.size := hb6.size
  replace hTa0 := hTa0.below hb6
  replace hTa1 := hTa1.below hb6
  replace hTx0 := hTx0.below hb6
  replace hTb0 := hTb0.below hb6
  replace hTb1 := hTb1.below hb6
  go_wp2_with fail
  refine (eqEntryS_same _ _ _ _ _ _ _ _ _ _ hLR1 hTb1 hTa1).mono ?_
  rintro e w7 ⟨rfl, hb⟩
  have hb7 : Below w6.heap.size w6 w7 := Below.on' (by go_grown) hb
  clear hb
  have hB7 : Below w.heap.size w w7 := Below.on' hB6 hb7
  have z7 : w6.heap.size ≤ w7.heap.size := hb7.size
  replace hTa0 := hTa0.below hb7
  replace hTa1 := hTa1.below hb7
  replace hTx0 := hTx0.below hb7
  replace hTb0 := hTb0.below hb7
  replace hTb1 := hTb1.below hb7
  go_wp2_with fail
  refine (toEntryS_any Ah ch h _ hl'h (hSh.below hB7).all).mono ?_
  rintro e w8 ⟨gy, rfl, hU, hb⟩
  have hb8 : Below w7.heap.size w7 w8 := Below.on' (by go_grown) hb
  clear hb
  have hB8 : Below w.heap.size w w8 := Below.on' hB7 hb8
  have z8 : w7.heap.size ≤ w8.heap.size := hb8.size
  replace hTa0 := hTa0.below hb8
  replace hTa1 := hTa1.below hb8
  replace hTx0 := hTx0.below hb8
  replace hTb0 := hTb0.below hb8
  replace hTb1 := hTb1.below hb8
  have hTy := hU.mono (lo' := w7.heap.size) (hi' := w8.heap.size) (by first | exact Nat.le_refl _ | (simp; done) | (simp; omega)) (Nat.le_refl _) (Nat.le_refl _)
  clear hU
  go_wp2_with fail
  refine (eqEntryS_same _ _ _ _ _ _ _ _ _ _ hl'h hTx0 hTy).mono ?_
  rintro e w9 ⟨rfl, hb⟩
  have hb9 : Below w8.heap.size w8 w9 := Below.on' (by go_grown) hb
  clear hb
  have hB9 : Below w.heap.size w w9 := Below.on' hB8 hb9
  have z9 : w8.heap.size ≤ w9.heap.size := hb9.size
  replace hTa0 := hTa0.below hb9
  replace hTa1 := hTa1.below hb9
  replace hTx0 := hTx0.below hb9
  replace hTb0 := hTb0.below hb9
  replace hTb1 := hTb1.below hb9
  replace hTy := hTy.below hb9
  clear hTy
  go_wp2_with fail
  refine (markEntryS_any _ _ _ _ _ _ _ hl'h (by omega) (by omega) hTx0).mono ?_
  rintro e w10 ⟨rfl, hM, hF⟩
  have hB10 : Below w.heap.size w w10 := hB9.trans (hF.below (by omega) (by omega))
  have z10 : w9.heap.size ≤ w10.heap.size := hF.size
  replace hTa0 := hTa0.fr hF (by omega)
  replace hTa1 := hTa1.fr hF (by omega)
  replace hTb0 := hTb0.fr hF (by omega)
  replace hTb1 := hTb1.fr hF (by omega)
  clear hF
  replace hTx0 := hM
  clear hM
  clear hTx0
  go_wp2_with fail
  refine (eqEntryS_same _ _ _ _ _ _ _ _ _ _ hLR0 hTb0 hTa0).mono ?_
  rintro e w11 ⟨rfl, hb⟩
  have hb11 : Below w10.heap.size w10 w11 := Below.on' (by go_grown) hb
  clear hb
  have hB11 : Below w.heap.size w w11 := Below.on' hB10 hb11
  have z11 : w10.heap.size ≤ w11.heap.size := hb11.size
  replace hTa0 := hTa0.below hb11
  replace hTa1 := hTa1.below hb11
  replace hTb0 := hTb0.below hb11
  replace hTb1 := hTb1.below hb11
  go_wp2_with fail
  refine (eqEntryS_same _ _ _ _ _ _ _ _ _ _ hLR1 hTb1 hTa1).mono ?_
  rintro e w12 ⟨rfl, hb⟩
  have hb12 : Below w11.heap.size w11 w12 := Below.on' (by go_grown) hb
  clear hb
  have hB12 : Below w.heap.size w w12 := Below.on' hB11 hb12
  have z12 : w11.heap.size ≤ w12.heap.size := hb12.size
  replace hTa0 := hTa0.below hb12
  replace hTa1 := hTa1.below hb12
  replace hTb0 := hTb0.below hb12
  replace hTb1 := hTb1.below hb12
  go_wp2_with fail
  refine (markEntryS_any _ _ _ _ _ _ _ hLR0 (by omega) (by omega) hTb0).mono ?_
  rintro e w13 ⟨rfl, hM, hF⟩
  have hB13 : Below w.heap.size w w13 := hB12.trans (hF.below (by omega) (by omega))
  have z13 : w12.heap.size ≤ w13.heap.size := hF.size
  replace hTa0 := hTa0.fr hF (by omega)
  replace hTa1 := hTa1.fr hF (by omega)
  replace hTb1 := hTb1.fr hF (by omega)
  clear hF
  replace hTb0 := hM
  clear hM
  go_wp2_with fail
  refine (markEntryS_any _ _ _ _ _ _ _ hLR1 (by omega) (by omega) hTb1).mono ?_
  rintro e w14 ⟨rfl, hM, hF⟩
  have hB14 : Below w.heap.size w w14 := hB13.trans (hF.below (by omega) (by omega))
  have z14 : w13.heap.size ≤ w14.heap.size := hF.size
  replace hTa0 := hTa0.fr hF (by omega)
  replace hTa1 := hTa1.fr hF (by omega)
  replace hTb0 := hTb0.fr hF (by omega)
  clear hF
  replace hTb1 := hM
  clear hM
  go_wp2_with fail
  refine (heldEntryS_any _ _ _ _ _ _ _ hLR0 (by omega) (by omega) hTb0).mono ?_
  rintro e w15 ⟨rfl, hb⟩
  have hb15 : Below w14.heap.size w14 w15 := Below.on' (by go_grown) hb
  clear hb
  have hB15 : Below w.heap.size w w15 := Below.on' hB14 hb15
  have z15 : w14.heap.size ≤ w15.heap.size := hb15.size
  replace hTa0 := hTa0.below hb15
  replace hTa1 := hTa1.below hb15
  replace hTb0 := hTb0.below hb15
  replace hTb1 := hTb1.below hb15
  go_wp2_with fail
  refine (heldEntryS_any _ _ _ _ _ _ _ hLR1 (by omega) (by omega) hTb1).mono ?_
  rintro e w16 ⟨rfl, hb⟩
  have hb16 : Below w15.heap.size w15 w16 := Below.on' (by go_grown) hb
  clear hb
  have hB16 : Below w.heap.size w w16 := Below.on' hB15 hb16
  have z16 : w15.heap.size ≤ w16.heap.size := hb16.size
  replace hTa0 := hTa0.below hb16
  replace hTa1 := hTa1.below hb16
  replace hTb0 := hTb0.below hb16
  replace hTb1 := hTb1.below hb16
  go_wp2_with fail
  refine (toEntryS_any Ah ch h _ hl'h (hSh.below hB16).all).mono ?_
  rintro e w17 ⟨gt0, rfl, hU, hb⟩
  have hb17 : Below w16.heap.size w16 w17 := Below.on' (by go_grown) hb
  clear hb
  have hB17 : Below w.heap.size w w17 := Below.on' hB16 hb17
  have z17 : w16.heap.size ≤ w17.heap.size := hb17.size
  replace hTa0 := hTa0.below hb17
  replace hTa1 := hTa1.below hb17
  replace hTb0 := hTb0.below hb17
  replace hTb1 := hTb1.below hb17
  have hTt0 := hU.mono (lo' := w16.heap.size) (hi' := w17.heap.size) (by first | exact Nat.le_refl _ | (simp; done) | (simp; omega)) (Nat.le_refl _) (Nat.le_refl _)
  clear hU
  go_wp2_with fail
  refine (SplitHistory_impl _ _ h _ hl'h hm'h hTt0.all (Nat.le_refl _)).mono ?_
  rintro e w18 ⟨Ah0, ch0, Ah1, ch1, midh, rfl, hloh, hhih, hU0, hU1, hcc0, hcc1, hb⟩
  have hb18 : Below w17.heap.size w17 w18 := Below.on' (by go_grown) hb
  clear hb
  have hB18 : Below w.heap.size w w18 := Below.on' hB17 hb18
  have z18 : w17.heap.size ≤ w18.heap.size := hb18.size
  replace hTa0 := hTa0.below hb18
  replace hTa1 := hTa1.below hb18
  replace hTb0 := hTb0.below hb18
  replace hTb1 := hTb1.below hb18
  replace hTt0 := hTt0.below hb18
  have hTh0 := hU0.mono (lo' := w17.heap.size) (hi' := midh) (by first | exact Nat.le_refl _ | (simp; done) | (simp; omega)) (Nat.le_refl _) (by first | exact Nat.le_refl _ | omega)
  clear hU0 hcc0
  have hTh1 := hU1.mono (lo' := midh) (hi' := w18.heap.size) (by first | exact Nat.le_refl _ | (simp; done) | (simp; omega)) (Nat.le_refl _) (by first | exact Nat.le_refl _ | omega)
  clear hU1 hcc1
  clear hTt0
  go_wp2_with fail
  refine (eqEntryS_same _ _ _ _ _ _ _ _ _ _ hLR0 hTh0 hTa0).mono ?_
  rintro e w19 ⟨rfl, hb⟩
  have hb19 : Below w18.heap.size w18 w19 := Below.on' (by go_grown) hb
  clear hb
  have hB19 : Below w.heap.size w w19 := Below.on' hB18 hb19
  have z19 : w18.heap.size ≤ w19.heap.size := hb19.size
  replace hTa0 := hTa0.below hb19
  replace hTa1 := hTa1.below hb19
  replace hTb0 := hTb0.below hb19
  replace hTb1 := hTb1.below hb19
  replace hTh0 := hTh0.below hb19
  replace hTh1 := hTh1.below hb19
  go_wp2_with fail
  refine (eqEntryS_same _ _ _ _ _ _ _ _ _ _ hLR1 hTh1 hTa1).mono ?_
  rintro e w20 ⟨rfl, hb⟩
  have hb20 : Below w19.heap.size w19 w20 := Below.on' (by go_grown) hb
  clear hb
  have hB20 : Below w.heap.size w w20 := Below.on' hB19 hb20
  have z20 : w19.heap.size ≤ w20.heap.size := hb20.size
  replace hTa0 := hTa0.below hb20
  replace hTa1 := hTa1.below hb20
  replace hTb0 := hTb0.below hb20
  replace hTb1 := hTb1.below hb20
  replace hTh0 := hTh0.below hb20
  replace hTh1 := hTh1.below hb20
  clear hTh0
  clear hTh1
  clear hTa0
  clear hTa1
  go_wp2_with fail
  refine (heldEntryS_any _ _ _ _ _ _ _ hLR0 (by omega) (by omega) hTb0).mono ?_
  rintro e w21 ⟨rfl, hb⟩
  have hb21 : Below w20.heap.size w20 w21 := Below.on' (by go_grown) hb
  clear hb
  have hB21 : Below w.heap.size w w21 := Below.on' hB20 hb21
  have z21 : w20.heap.size ≤ w21.heap.size := hb21.size
  replace hTb0 := hTb0.below hb21
  replace hTb1 := hTb1.below hb21
  go_wp2_with fail
  refine (heldEntryS_any _ _ _ _ _ _ _ hLR1 (by omega) (by omega) hTb1).mono ?_
  rintro e w22 ⟨rfl, hb⟩
  have hb22 : Below w21.heap.size w21 w22 := Below.on' (by go_grown) hb
  clear hb
  have hB22 : Below w.heap.size w w22 := Below.on' hB21 hb22
  have z22 : w21.heap.size ≤ w22.heap.size := hb22.size
  replace hTb0 := hTb0.below hb22
  replace hTb1 := hTb1.below hb22
  go_wp2_with fail
  go_ret
  exact ⟨rfl, hB22⟩

set_option maxRecDepth 100000 in
theorem lifted (os : Os) (started : os.Started) (H : Type) (enc : TypeId × Value → H) :
    ReturnsInHanded {} Try.checked os 4 .any (Rows.fnExactSplitHistorySpec.pre6 enc Try.prog Try.f4 Rows.fnExactSplitHistoryRow.domain false) (Rows.fnExactSplitHistorySpec.post enc Try.prog Try.f4 false true false false) := by
  refine law_lifted (C := Try.checked) own started (by kernel_rfl) Try.func4
    (ChangeSpec.witness6 (enc := enc) (C := Try.checked) false ⟨#[], #[.slice none 0 0], []⟩ 8 (by kernel_rfl) (by kernel_rfl) (by kernel_rfl) (by kernel_rfl))
    laidOut 4 (by kernel_rfl) Try.underlying4 (by kernel_rfl) rfl ?_ ?_
  · intro ds hds
    have hn : Try.f4.params.size = 1 := by kernel_rfl
    rw [hn] at hds
    match ds, hds with
    | [d0], _ => rfl
  intro W base args ds p hval0 hA0 hlt hnf hsh
  have hval : ∀ (j : Nat) t v, Try.f4.params[j]? = some t → args[j]? = some v → Value.okWide Try.prog W .any base t v := hval0
  have hA : DataW.TrodAll enc Try.prog W 0 (fun _ => true) true Try.f4.params.toList args.toList ds p := hA0
  clear hval0 hA0
  rw [Try.params4] at hA hval
  obtain ⟨v0, vs0, d0, ds0, p0, q0, hargs, rfl, rfl, h0, r0⟩ := trodAll_cons hA
  obtain ⟨rfl, rfl, rfl⟩ := trodAll_nil r0
  obtain rfl : args = #[v0] := by cases args; simp_all
  obtain ⟨Ah, ch, h, rfl, hlh, hmh, hSh⟩ := Ent.openedS (hval 0 22 v0 rfl rfl) h0 (fun x hx => hlt x (by simp [hx])) (fun b o h => hnf b o (by simp [h]))
  exact walk Ah ch h hlh hmh W hSh

theorem over : Rows.fnExactSplitHistoryRow.holds Try.pinned (OpenSpec.ofChange Rows.fnExactSplitHistorySpec) :=
  OpenClaim.holds_of_wide 4 Try.f4 rfl rfl rfl rfl rfl rfl rfl ⟨rfl, rfl, rfl, rfl, rfl⟩ rfl rfl rfl rfl rfl (by kernel_rfl) Try.func4 (by kernel_rfl)
    (of_decide_eq_true (by kernel_rfl)) (by unfold Func.isWrapper; first | (rw [if_pos (by decide +kernel)]; kernel_rfl) | (rw [if_neg (by decide +kernel)]; exact ⟨rfl, rfl⟩))
    (fun os started H enc _ => lifted os started H enc)

theorem proved : Rows.FnExactSplitHistorySaid :=
  over
#print axioms proved
end Go.Proofs.Ytbddghbcgolbnaa.lawSplitHistory

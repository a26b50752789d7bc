/- FnExactMergeHistories: the program's MergeHistories returns what the reference's returns, for all arguments. No conditions. -/
import Derived.Test.YtbddghbcgolbnaaHof
import Derived.Test.YtbddghbcgolbnaaEntMk
import Derived.Test.YtbddghbcgolbnaaEntArg
namespace Go.Proofs.Ytbddghbcgolbnaa.lawMergeHistories
open Go.ChangeShapes Go.WideShapes Go.ChangeAt Go.RowKit Go.Joins Go.Proofs.Ytbddghbcgolbnaa

set_option maxHeartbeats 4000000 in
theorem walk (Aa : Option Addr) (ca : Nat) (a : List Ent) (hla : a.length ≤ maxLen) (hma : ∀ x ∈ a, x.t.size ≤ maxLen) (Ab : Option Addr) (cb : Nat) (b : List Ent) (hlb : b.length ≤ maxLen) (hmb : ∀ x ∈ b, x.t.size ≤ maxLen) (w : World) (hSa : Ents w 0 w.heap.size Aa a) (hSb : Ents w 0 w.heap.size Ab b) : Calls Try.prog 7 #[.slice Aa a.length ca, .slice Ab b.length cb] w fun e w' => e = .returned (.bool true) ∧ Below w.heap.size w w' := by
  go_enter Try.func7, Try.ntmps7
  go_wp2_with fail
  refine (szEntryS_any Aa ca a _ _ hla hma hSa (by omega) (by omega)).mono ?_
  rintro e w1 ⟨r0, rfl, hr0, hrest, hb⟩
  have hb1 : Below w.heap.size w w1 := Below.on' (by go_grown) hb
  clear hb
  have hB1 : Below w.heap.size w w1 := hb1
  have z1 : w.heap.size ≤ w1.heap.size := hb1.size
  by_cases h0r0 : r0 < 0
  · go_wp2
    go_ret
    exact ⟨rfl, hB1⟩
  obtain ⟨hl'a, hm'a⟩ := hrest (by omega)
  clear hrest
  go_wp2_with fail
  refine (szEntryS_any Ab cb b _ _ hlb hmb (hSb.below hB1).all (by omega) (by omega)).mono ?_
  rintro e w2 ⟨r1, rfl, hr1, hrest, hb⟩
  have hb2 : Below w1.heap.size w1 w2 := Below.on' (by go_grown) hb
  clear hb
  have hB2 : Below w.heap.size w w2 := Below.on' hB1 hb2
  have z2 : w1.heap.size ≤ w2.heap.size := hb2.size
  by_cases h0r1 : r1 < 0
  · go_wp2
    go_ret
    exact ⟨rfl, hB2⟩
  obtain ⟨hl'b, hm'b⟩ := hrest (by omega)
  clear hrest
  have hLR0 : (mgeR a b).length ≤ 1048576 := mgeR_len a b
  go_wp2_with fail
  refine (toEntryS_any Aa ca a _ hl'a (hSa.below hB2).all).mono ?_
  rintro e w3 ⟨gt0, rfl, hU, hb⟩
  have hb3 : Below w2.heap.size w2 w3 := Below.on' (by go_grown) hb
  clear hb
  have hB3 : Below w.heap.size w w3 := Below.on' hB2 hb3
  have z3 : w2.heap.size ≤ w3.heap.size := hb3.size
  have hTt0 := hU.mono (lo' := w2.heap.size) (hi' := w3.heap.size) (by first | exact Nat.le_refl _ | (simp; done) | (simp; omega)) (Nat.le_refl _) (Nat.le_refl _)
  clear hU
  go_wp2_with fail
  refine (toEntryS_any Ab cb b _ hl'b (hSb.below hB3).all).mono ?_
  rintro e w4 ⟨gt1, rfl, hU, hb⟩
  have hb4 : Below w3.heap.size w3 w4 := Below.on' (by go_grown) hb
  clear hb
  have hB4 : Below w.heap.size w w4 := Below.on' hB3 hb4
  have z4 : w3.heap.size ≤ w4.heap.size := hb4.size
  replace hTt0 := hTt0.below hb4
  have hTt1 := hU.mono (lo' := w3.heap.size) (hi' := w4.heap.size) (by first | exact Nat.le_refl _ | (simp; done) | (simp; omega)) (Nat.le_refl _) (Nat.le_refl _)
  clear hU
  go_wp2_with fail
  refine (MergeHistories_spec _ _ a _ _ b _ hl'a hm'a hTt0.all (Nat.le_refl _) hl'b hm'b hTt1.all (Nat.le_refl _)).mono ?_
  rintro e w5 ⟨Aa0, ca0, rfl, hU0, hcc0, hb⟩
  have hb5 : Below w4.heap.size w4 w5 := Below.on' (by go_grown) hb
  clear hb
  have hB5 : Below w.heap.size w w5 := Below.on' hB4 hb5
  have z5 : w4.heap.size ≤ w5.heap.size := hb5.size
  replace hTt0 := hTt0.below hb5
  replace hTt1 := hTt1.below hb5
  have hTa0 := hU0.mono (lo' := w4.heap.size) (hi' := w5.heap.size) (by first | exact Nat.le_refl _ | (simp; done) | (simp; omega)) (Nat.le_refl _) (by first | exact Nat.le_refl _ | omega)
  clear hU0 hcc0
  clear hTt0
  clear hTt1
  go_wp2_with fail
  refine (toEntryS_any Aa ca a _ hl'a (hSa.below hB5).all).mono ?_
  rintro e w6 ⟨gx0, rfl, hU, hb⟩
  have hb6 : Below w5.heap.size w5 w6 := Below.on' (by go_grown) hb
  clear hb
  have hB6 : Below w.heap.size w w6 := Below.on' hB5 hb6
  have z6 : w5.heap.size ≤ w6.heap.size := hb6.size
  replace hTa0 := hTa0.below hb6
  have hTx0 := hU.mono (lo' := w5.heap.size) (hi' := w6.heap.size) (by first | exact Nat.le_refl _ | (simp; done) | (simp; omega)) (Nat.le_refl _) (Nat.le_refl _)
  clear hU
  go_wp2_with fail
  refine (toEntryS_any Ab cb b _ hl'b (hSb.below hB6).all).mono ?_
  rintro e w7 ⟨gx1, rfl, hU, hb⟩
  have hb7 : Below w6.heap.size w6 w7 := Below.on' (by go_grown) hb
  clear hb
  have hB7 : Below w.heap.size w w7 := Below.on' hB6 hb7
  have z7 : w6.heap.size ≤ w7.heap.size := hb7.size
  replace hTa0 := hTa0.below hb7
  replace hTx0 := hTx0.below hb7
  have hTx1 := hU.mono (lo' := w6.heap.size) (hi' := w7.heap.size) (by first | exact Nat.le_refl _ | (simp; done) | (simp; omega)) (Nat.le_refl _) (Nat.le_refl _)
  clear hU
  go_wp2_with fail
  refine (MergeHistories_impl _ _ a _ _ b _ hl'a hm'a hTx0.all (Nat.le_refl _) hl'b hm'b hTx1.all (Nat.le_refl _)).mono ?_
  rintro e w8 ⟨Ab0, cb0, rfl, hU0, hcc0, hb⟩
  have hb8 : Below w7.heap.size w7 w8 := Below.on' (by go_grown) hb
  clear hb
  have hB8 : Below w.heap.size w w8 := Below.on' hB7 hb8
  have z8 : w7.heap.size ≤ w8.heap.size := hb8.size
  replace hTa0 := hTa0.below hb8
  replace hTx0 := hTx0.below hb8
  replace hTx1 := hTx1.below hb8
  have hTb0 := hU0.mono (lo' := w7.heap.size) (hi' := w8.heap.size) (by first | exact Nat.le_refl _ | (simp; done) | (simp; omega)) (Nat.le_refl _) (by first | exact Nat.le_refl _ | omega)
  clear hU0 hcc0
  go_wp2_with fail
  refine (eqEntryS_same _ _ _ _ _ _ _ _ _ _ hLR0 hTb0 hTa0).mono ?_
  rintro e w9 ⟨rfl, hb⟩
  have hb9 : Below w8.heap.size w8 w9 := Below.on' (by go_grown) hb
  clear hb
  have hB9 : Below w.heap.size w w9 := Below.on' hB8 hb9
  have z9 : w8.heap.size ≤ w9.heap.size := hb9.size
  replace hTa0 := hTa0.below hb9
  replace hTx0 := hTx0.below hb9
  replace hTx1 := hTx1.below hb9
  replace hTb0 := hTb0.below hb9
  go_wp2_with fail
  refine (toEntryS_any Aa ca a _ hl'a (hSa.below hB9).all).mono ?_
  rintro e w10 ⟨gy, rfl, hU, hb⟩
  have hb10 : Below w9.heap.size w9 w10 := Below.on' (by go_grown) hb
  clear hb
  have hB10 : Below w.heap.size w w10 := Below.on' hB9 hb10
  have z10 : w9.heap.size ≤ w10.heap.size := hb10.size
  replace hTa0 := hTa0.below hb10
  replace hTx0 := hTx0.below hb10
  replace hTx1 := hTx1.below hb10
  replace hTb0 := hTb0.below hb10
  have hTy := hU.mono (lo' := w9.heap.size) (hi' := w10.heap.size) (by first | exact Nat.le_refl _ | (simp; done) | (simp; omega)) (Nat.le_refl _) (Nat.le_refl _)
  clear hU
  go_wp2_with fail
  refine (eqEntryS_same _ _ _ _ _ _ _ _ _ _ hl'a hTx0 hTy).mono ?_
  rintro e w11 ⟨rfl, hb⟩
  have hb11 : Below w10.heap.size w10 w11 := Below.on' (by go_grown) hb
  clear hb
  have hB11 : Below w.heap.size w w11 := Below.on' hB10 hb11
  have z11 : w10.heap.size ≤ w11.heap.size := hb11.size
  replace hTa0 := hTa0.below hb11
  replace hTx0 := hTx0.below hb11
  replace hTx1 := hTx1.below hb11
  replace hTb0 := hTb0.below hb11
  replace hTy := hTy.below hb11
  clear hTy
  go_wp2_with fail
  refine (toEntryS_any Ab cb b _ hl'b (hSb.below hB11).all).mono ?_
  rintro e w12 ⟨gy, rfl, hU, hb⟩
  have hb12 : Below w11.heap.size w11 w12 := Below.on' (by go_grown) hb
  clear hb
  have hB12 : Below w.heap.size w w12 := Below.on' hB11 hb12
  have z12 : w11.heap.size ≤ w12.heap.size := hb12.size
  replace hTa0 := hTa0.below hb12
  replace hTx0 := hTx0.below hb12
  replace hTx1 := hTx1.below hb12
  replace hTb0 := hTb0.below hb12
  have hTy := hU.mono (lo' := w11.heap.size) (hi' := w12.heap.size) (by first | exact Nat.le_refl _ | (simp; done) | (simp; omega)) (Nat.le_refl _) (Nat.le_refl _)
  clear hU
  go_wp2_with fail
  refine (eqEntryS_same _ _ _ _ _ _ _ _ _ _ hl'b hTx1 hTy).mono ?_
  rintro e w13 ⟨rfl, hb⟩
  have hb13 : Below w12.heap.size w12 w13 := Below.on' (by go_grown) hb
  clear hb
  have hB13 : Below w.heap.size w w13 := Below.on' hB12 hb13
  have z13 : w12.heap.size ≤ w13.heap.size := hb13.size
  replace hTa0 := hTa0.below hb13
  replace hTx0 := hTx0.below hb13
  replace hTx1 := hTx1.below hb13
  replace hTb0 := hTb0.below hb13
  replace hTy := hTy.below hb13
  clear hTy
  go_wp2_with fail
  refine (markEntryS_any _ _ _ _ _ _ _ hl'a (by omega) (by omega) hTx0).mono ?_
  rintro e w14 ⟨rfl, hM, hF⟩
  have hB14 : Below w.heap.size w w14 := hB13.trans (hF.below (by omega) (by omega))
  have z14 : w13.heap.size ≤ w14.heap.size := hF.size
  replace hTa0 := hTa0.fr hF (by omega)
  replace hTx1 := hTx1.fr hF (by omega)
  replace hTb0 := hTb0.fr hF (by omega)
  clear hF
  replace hTx0 := hM
  clear hM
  go_wp2_with fail
  refine (markEntryS_any _ _ _ _ _ _ _ hl'b (by omega) (by omega) hTx1).mono ?_
  rintro e w15 ⟨rfl, hM, hF⟩
  have hB15 : Below w.heap.size w w15 := hB14.trans (hF.below (by omega) (by omega))
  have z15 : w14.heap.size ≤ w15.heap.size := hF.size
  replace hTa0 := hTa0.fr hF (by omega)
  replace hTx0 := hTx0.fr hF (by omega)
  replace hTb0 := hTb0.fr hF (by omega)
  clear hF
  replace hTx1 := hM
  clear hM
  clear hTx0
  clear hTx1
  go_wp2_with fail
  refine (eqEntryS_same _ _ _ _ _ _ _ _ _ _ hLR0 hTb0 hTa0).mono ?_
  rintro e w16 ⟨rfl, hb⟩
  have hb16 : Below w15.heap.size w15 w16 := Below.on' (by go_grown) hb
  clear hb
  have hB16 : Below w.heap.size w w16 := Below.on' hB15 hb16
  have z16 : w15.heap.size ≤ w16.heap.size := hb16.size
  replace hTa0 := hTa0.below hb16
  replace hTb0 := hTb0.below hb16
  go_wp2_with fail
  refine (markEntryS_any _ _ _ _ _ _ _ hLR0 (by omega) (by omega) hTb0).mono ?_
  rintro e w17 ⟨rfl, hM, hF⟩
  have hB17 : Below w.heap.size w w17 := hB16.trans (hF.below (by omega) (by omega))
  have z17 : w16.heap.size ≤ w17.heap.size := hF.size
  replace hTa0 := hTa0.fr hF (by omega)
  clear hF
  replace hTb0 := hM
  clear hM
  go_wp2_with fail
  refine (heldEntryS_any _ _ _ _ _ _ _ hLR0 (by omega) (by omega) hTb0).mono ?_
  rintro e w18 ⟨rfl, hb⟩
  have hb18 : Below w17.heap.size w17 w18 := Below.on' (by go_grown) hb
  clear hb
  have hB18 : Below w.heap.size w w18 := Below.on' hB17 hb18
  have z18 : w17.heap.size ≤ w18.heap.size := hb18.size
  replace hTa0 := hTa0.below hb18
  replace hTb0 := hTb0.below hb18
  go_wp2_with fail
  refine (toEntryS_any Aa ca a _ hl'a (hSa.below hB18).all).mono ?_
  rintro e w19 ⟨gt0, rfl, hU, hb⟩
  have hb19 : Below w18.heap.size w18 w19 := Below.on' (by go_grown) hb
  clear hb
  have hB19 : Below w.heap.size w w19 := Below.on' hB18 hb19
  have z19 : w18.heap.size ≤ w19.heap.size := hb19.size
  replace hTa0 := hTa0.below hb19
  replace hTb0 := hTb0.below hb19
  have hTt0 := hU.mono (lo' := w18.heap.size) (hi' := w19.heap.size) (by first | exact Nat.le_refl _ | (simp; done) | (simp; omega)) (Nat.le_refl _) (Nat.le_refl _)
  clear hU
  go_wp2_with fail
  refine (toEntryS_any Ab cb b _ hl'b (hSb.below hB19).all).mono ?_
  rintro e w20 ⟨gt1, rfl, hU, hb⟩
  have hb20 : Below w19.heap.size w19 w20 := Below.on' (by go_grown) hb
  clear hb
  have hB20 : Below w.heap.size w w20 := Below.on' hB19 hb20
  have z20 : w19.heap.size ≤ w20.heap.size := hb20.size
  replace hTa0 := hTa0.below hb20
  replace hTb0 := hTb0.below hb20
  replace hTt0 := hTt0.below hb20
  have hTt1 := hU.mono (lo' := w19.heap.size) (hi' := w20.heap.size) (by first | exact Nat.le_refl _ | (simp; done) | (simp; omega)) (Nat.le_refl _) (Nat.le_refl _)
  clear hU
  go_wp2_with fail
  refine (MergeHistories_impl _ _ a _ _ b _ hl'a hm'a hTt0.all (Nat.le_refl _) hl'b hm'b hTt1.all (Nat.le_refl _)).mono ?_
  rintro e w21 ⟨Ah0, ch0, rfl, hU0, hcc0, hb⟩
  have hb21 : Below w20.heap.size w20 w21 := Below.on' (by go_grown) hb
  clear hb
  have hB21 : Below w.heap.size w w21 := Below.on' hB20 hb21
  have z21 : w20.heap.size ≤ w21.heap.size := hb21.size
  replace hTa0 := hTa0.below hb21
  replace hTb0 := hTb0.below hb21
  replace hTt0 := hTt0.below hb21
  replace hTt1 := hTt1.below hb21
  have hTh0 := hU0.mono (lo' := w20.heap.size) (hi' := w21.heap.size) (by first | exact Nat.le_refl _ | (simp; done) | (simp; omega)) (Nat.le_refl _) (by first | exact Nat.le_refl _ | omega)
  clear hU0 hcc0
  clear hTt0
  clear hTt1
  go_wp2_with fail
  refine (eqEntryS_same _ _ _ _ _ _ _ _ _ _ hLR0 hTh0 hTa0).mono ?_
  rintro e w22 ⟨rfl, hb⟩
  have hb22 : Below w21.heap.size w21 w22 := Below.on' (by go_grown) hb
  clear hb
  have hB22 : Below w.heap.size w w22 := Below.on' hB21 hb22
  have z22 : w21.heap.size ≤ w22.heap.size := hb22.size
  replace hTa0 := hTa0.below hb22
  replace hTb0 := hTb0.below hb22
  replace hTh0 := hTh0.below hb22
  clear hTh0
  clear hTa0
  go_wp2_with fail
  refine (heldEntryS_any _ _ _ _ _ _ _ hLR0 (by omega) (by omega) hTb0).mono ?_
  rintro e w23 ⟨rfl, hb⟩
  have hb23 : Below w22.heap.size w22 w23 := Below.on' (by go_grown) hb
  clear hb
  have hB23 : Below w.heap.size w w23 := Below.on' hB22 hb23
  have z23 : w22.heap.size ≤ w23.heap.size := hb23.size
  replace hTb0 := hTb0.below hb23
  go_wp2_with fail
  go_ret
  exact ⟨rfl, hB23⟩

set_option maxRecDepth 100000 in
theorem lifted (os : Os) (started : os.Started) (H : Type) (enc : TypeId × Value → H) :
    ReturnsInHanded {} Try.checked os 7 .any (Rows.fnExactMergeHistoriesSpec.pre6 enc Try.prog Try.f7 Rows.fnExactMergeHistoriesRow.domain false) (Rows.fnExactMergeHistoriesSpec.post enc Try.prog Try.f7 false true false false) := by
  refine law_lifted (C := Try.checked) own started (by kernel_rfl) Try.func7
    (ChangeSpec.witness6 (enc := enc) (C := Try.checked) false ⟨#[], #[.slice none 0 0, .slice none 0 0], []⟩ 8 (by kernel_rfl) (by kernel_rfl) (by kernel_rfl) (by kernel_rfl))
    laidOut 4 (by kernel_rfl) Try.underlying4 (by kernel_rfl) rfl ?_ ?_
  · intro ds hds
    have hn : Try.f7.params.size = 2 := by kernel_rfl
    rw [hn] at hds
    match ds, hds with
    | [d0, d1], _ => rfl
  intro W base args ds p hval0 hA0 hlt hnf hsh
  have hval : ∀ (j : Nat) t v, Try.f7.params[j]? = some t → args[j]? = some v → Value.okWide Try.prog W .any base t v := hval0
  have hA : DataW.TrodAll enc Try.prog W 0 (fun _ => true) true Try.f7.params.toList args.toList ds p := hA0
  clear hval0 hA0
  rw [Try.params7] at hA hval
  obtain ⟨v0, vs0, d0, ds0, p0, q0, hargs, rfl, rfl, h0, r0⟩ := trodAll_cons hA
  obtain ⟨v1, vs1, d1, ds1, p1, q1, rfl, rfl, rfl, h1, r1⟩ := trodAll_cons r0
  obtain ⟨rfl, rfl, rfl⟩ := trodAll_nil r1
  obtain rfl : args = #[v0, v1] := by cases args; simp_all
  obtain ⟨Aa, ca, a, rfl, hla, hma, hSa⟩ := Ent.openedS (hval 0 22 v0 rfl rfl) h0 (fun x hx => hlt x (by simp [hx])) (fun b o h => hnf b o (by simp [h]))
  obtain ⟨Ab, cb, b, rfl, hlb, hmb, hSb⟩ := Ent.openedS (hval 1 22 v1 rfl rfl) h1 (fun x hx => hlt x (by simp [hx])) (fun b o h => hnf b o (by simp [h]))
  exact walk Aa ca a hla hma Ab cb b hlb hmb W hSa hSb

theorem over : Rows.fnExactMergeHistoriesRow.holds Try.pinned (OpenSpec.ofChange Rows.fnExactMergeHistoriesSpec) :=
  OpenClaim.holds_of_wide 7 Try.f7 rfl rfl rfl rfl rfl rfl rfl ⟨rfl, rfl, rfl, rfl, rfl⟩ rfl rfl rfl rfl rfl (by kernel_rfl) Try.func7 (by kernel_rfl)
    (of_decide_eq_true (by kernel_rfl)) (by unfold Func.isWrapper; first | (rw [if_pos (by decide +kernel)]; kernel_rfl) | (rw [if_neg (by decide +kernel)]; exact ⟨rfl, rfl⟩))
    (fun os started H enc _ => lifted os started H enc)

theorem proved : Rows.FnExactMergeHistoriesSaid :=
  over
#print axioms proved
end Go.Proofs.Ytbddghbcgolbnaa.lawMergeHistories

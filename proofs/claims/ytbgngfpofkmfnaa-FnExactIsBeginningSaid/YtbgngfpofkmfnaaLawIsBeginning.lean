/- FnExactIsBeginning: the program's IsBeginning returns what the reference's returns, for all arguments. No conditions. -/
import Derived.Test.YtbgngfpofkmfnaaBeginB
import Derived.Test.YtbgngfpofkmfnaaOwn
import Derived.Test.YtbgngfpofkmfnaaEntArg
namespace Go.Proofs.Ytbgngfpofkmfnaa.lawIsBeginning
open Go.ChangeShapes Go.WideShapes Go.ChangeAt Go.RowKit Go.Joins Go.Proofs.Ytbgngfpofkmfnaa

set_option maxHeartbeats 4000000 in
theorem walk (Aa : Option Addr) (ca : Nat) (a : List Ent) (hla : a.length ≤ maxLen) (hma : ∀ x ∈ a, x.t.size ≤ maxLen) (Ab : Option Addr) (cb : Nat) (b : List Ent) (hlb : b.length ≤ maxLen) (hmb : ∀ x ∈ b, x.t.size ≤ maxLen) (w : World) (hSa : Ents w 0 w.heap.size Aa a) (hSb : Ents w 0 w.heap.size Ab b) : Calls Try.prog 7 #[.slice Aa a.length ca, .slice Ab b.length cb] w fun e w' => e = .returned (.bool true) ∧ Below w.heap.size w w' := by
  go_enter Try.func7, Try.ntmps7
  go_wp2_with fail
  refine (szEntryS_any Aa ca a _ _ hla hma hSa (by omega) (by omega)).mono ?_
  rintro e w1 ⟨r0, rfl, hr0, hrest, hb⟩
  have hb1 : Below w.heap.size w w1 := Below.on' (by go_grown) hb
  clear hb
  have hB1 : Below w.heap.size w w1 := hb1
  have z1 : w.heap.size ≤ w1.heap.size := hb1.size
  by_cases h0r0 : r0 < 0
  · go_wp2
    go_ret
    exact ⟨rfl, hB1⟩
  obtain ⟨hl'a, hm'a⟩ := hrest (by omega)
  clear hrest
  go_wp2_with fail
  refine (szEntryS_any Ab cb b _ _ hlb hmb (hSb.below hB1).all (by omega) (by omega)).mono ?_
  rintro e w2 ⟨r1, rfl, hr1, hrest, hb⟩
  have hb2 : Below w1.heap.size w1 w2 := Below.on' (by go_grown) hb
  clear hb
  have hB2 : Below w.heap.size w w2 := Below.on' hB1 hb2
  have z2 : w1.heap.size ≤ w2.heap.size := hb2.size
  by_cases h0r1 : r1 < 0
  · go_wp2
    go_ret
    exact ⟨rfl, hB2⟩
  obtain ⟨hl'b, hm'b⟩ := hrest (by omega)
  clear hrest
  go_wp2_with fail
  refine (toEntryS_any Aa ca a _ hl'a (hSa.below hB2).all).mono ?_
  rintro e w3 ⟨gt0, rfl, hU, hb⟩
  have hb3 : Below w2.heap.size w2 w3 := Below.on' (by go_grown) hb
  clear hb
  have hB3 : Below w.heap.size w w3 := Below.on' hB2 hb3
  have z3 : w2.heap.size ≤ w3.heap.size := hb3.size
  have hTt0 := hU.mono (lo' := w2.heap.size) (hi' := w3.heap.size) (by first | exact Nat.le_refl _ | (simp; done) | (simp; omega)) (Nat.le_refl _) (Nat.le_refl _)
  clear hU
  go_wp2_with fail
  refine (toEntryS_any Ab cb b _ hl'b (hSb.below hB3).all).mono ?_
  rintro e w4 ⟨gt1, rfl, hU, hb⟩
  have hb4 : Below w3.heap.size w3 w4 := Below.on' (by go_grown) hb
  clear hb
  have hB4 : Below w.heap.size w w4 := Below.on' hB3 hb4
  have z4 : w3.heap.size ≤ w4.heap.size := hb4.size
  replace hTt0 := hTt0.below hb4
  have hTt1 := hU.mono (lo' := w3.heap.size) (hi' := w4.heap.size) (by first | exact Nat.le_refl _ | (simp; done) | (simp; omega)) (Nat.le_refl _) (Nat.le_refl _)
  clear hU
  go_wp2_with fail
  refine (IsBeginning_spec _ _ _ _ a b _ (big hl'a) (bigs hm'a) hTt0.all (big hl'b) (bigs hm'b) hTt1.all).mono ?_
  rintro e w5 ⟨rfl, hb⟩
  have hb5 : Below w4.heap.size w4 w5 := Below.on' (by go_grown) hb
  clear hb
  have hB5 : Below w.heap.size w w5 := Below.on' hB4 hb5
  have z5 : w4.heap.size ≤ w5.heap.size := hb5.size
  replace hTt0 := hTt0.below hb5
  replace hTt1 := hTt1.below hb5
  clear hTt0
  clear hTt1
  go_wp2_with fail
  refine (toEntryS_any Aa ca a _ hl'a (hSa.below hB5).all).mono ?_
  rintro e w6 ⟨gx0, rfl, hU, hb⟩
  have hb6 : Below w5.heap.size w5 w6 := Below.on' (by go_grown) hb
  clear hb
  have hB6 : Below w.heap.size w w6 := Below.on' hB5 hb6
  have z6 : w5.heap.size ≤ w6.heap.size := hb6.size
  have hTx0 := hU.mono (lo' := w5.heap.size) (hi' := w6.heap.size) (by first | exact Nat.le_refl _ | (simp; done) | (simp; omega)) (Nat.le_refl _) (Nat.le_refl _)
  clear hU
  go_wp2_with fail
  refine (toEntryS_any Ab cb b _ hl'b (hSb.below hB6).all).mono ?_
  rintro e w7 ⟨gx1, rfl, hU, hb⟩
  have hb7 : Below w6.heap.size w6 w7 := Below.on' (by go_grown) hb
  clear hb
  have hB7 : Below w.heap.size w w7 := Below.on' hB6 hb7
  have z7 : w6.heap.size ≤ w7.heap.size := hb7.size
  replace hTx0 := hTx0.below hb7
  have hTx1 := hU.mono (lo' := w6.heap.size) (hi' := w7.heap.size) (by first | exact Nat.le_refl _ | (simp; done) | (simp; omega)) (Nat.le_refl _) (Nat.le_refl _)
  clear hU
  go_wp2_with fail
  refine (IsBeginning_impl _ _ _ _ a b _ (big hl'a) (bigs hm'a) hTx0.all (big hl'b) (bigs hm'b) hTx1.all (Nat.le_refl _)).mono ?_
  rintro e w8 ⟨rfl, hb⟩
  have hb8 : Below w7.heap.size w7 w8 := Below.on' (by go_grown) hb
  clear hb
  have hB8 : Below w.heap.size w w8 := Below.on' hB7 hb8
  have z8 : w7.heap.size ≤ w8.heap.size := hb8.size
  replace hTx0 := hTx0.below hb8
  replace hTx1 := hTx1.below hb8
  go_wp2_with fail
  refine (toEntryS_any Aa ca a _ hl'a (hSa.below hB8).all).mono ?_
  rintro e w9 ⟨gy, rfl, hU, hb⟩
  have hb9 : Below w8.heap.size w8 w9 := Below.on' (by go_grown) hb
  clear hb
  have hB9 : Below w.heap.size w w9 := Below.on' hB8 hb9
  have z9 : w8.heap.size ≤ w9.heap.size := hb9.size
  replace hTx0 := hTx0.below hb9
  replace hTx1 := hTx1.below hb9
  have hTy := hU.mono (lo' := w8.heap.size) (hi' := w9.heap.size) (by first | exact Nat.le_refl _ | (simp; done) | (simp; omega)) (Nat.le_refl _) (Nat.le_refl _)
  clear hU
  go_wp2_with fail
  refine (eqEntryS_same _ _ _ _ _ _ _ _ _ _ hl'a hTx0 hTy).mono ?_
  rintro e w10 ⟨rfl, hb⟩
  have hb10 : Below w9.heap.size w9 w10 := Below.on' (by go_grown) hb
  clear hb
  have hB10 : Below w.heap.size w w10 := Below.on' hB9 hb10
  have z10 : w9.heap.size ≤ w10.heap.size := hb10.size
  replace hTx0 := hTx0.below hb10
  replace hTx1 := hTx1.below hb10
  replace hTy := hTy.below hb10
  clear hTy
  go_wp2_with fail
  refine (toEntryS_any Ab cb b _ hl'b (hSb.below hB10).all).mono ?_
  rintro e w11 ⟨gy, rfl, hU, hb⟩
  have hb11 : Below w10.heap.size w10 w11 := Below.on' (by go_grown) hb
  clear hb
  have hB11 : Below w.heap.size w w11 := Below.on' hB10 hb11
  have z11 : w10.heap.size ≤ w11.heap.size := hb11.size
  replace hTx0 := hTx0.below hb11
  replace hTx1 := hTx1.below hb11
  have hTy := hU.mono (lo' := w10.heap.size) (hi' := w11.heap.size) (by first | exact Nat.le_refl _ | (simp; done) | (simp; omega)) (Nat.le_refl _) (Nat.le_refl _)
  clear hU
  go_wp2_with fail
  refine (eqEntryS_same _ _ _ _ _ _ _ _ _ _ hl'b hTx1 hTy).mono ?_
  rintro e w12 ⟨rfl, hb⟩
  have hb12 : Below w11.heap.size w11 w12 := Below.on' (by go_grown) hb
  clear hb
  have hB12 : Below w.heap.size w w12 := Below.on' hB11 hb12
  have z12 : w11.heap.size ≤ w12.heap.size := hb12.size
  replace hTx0 := hTx0.below hb12
  replace hTx1 := hTx1.below hb12
  replace hTy := hTy.below hb12
  clear hTy
  go_wp2_with fail
  go_ret
  exact ⟨rfl, hB12⟩

set_option maxRecDepth 100000 in
theorem lifted (os : Os) (started : os.Started) (H : Type) (enc : TypeId × Value → H) :
    ReturnsInHanded {} Try.checked os 7 .any (Rows.fnExactIsBeginningSpec.pre6 enc Try.prog Try.f7 Rows.fnExactIsBeginningRow.domain false) (Rows.fnExactIsBeginningSpec.post enc Try.prog Try.f7 false true false false) := by
  refine law_lifted (C := Try.checked) own started (by kernel_rfl) Try.func7
    (ChangeSpec.witness6 (enc := enc) (C := Try.checked) false ⟨#[], #[.slice none 0 0, .slice none 0 0], []⟩ 8 (by kernel_rfl) (by kernel_rfl) (by kernel_rfl) (by kernel_rfl))
    laidOut 4 (by kernel_rfl) Try.underlying4 (by kernel_rfl) rfl ?_ ?_
  · intro ds hds
    have hn : Try.f7.params.size = 2 := by kernel_rfl
    rw [hn] at hds
    match ds, hds with
    | [d0, d1], _ => rfl
  intro W base args ds p hval0 hA0 hlt hnf hsh
  have hval : ∀ (j : Nat) t v, Try.f7.params[j]? = some t → args[j]? = some v → Value.okWide Try.prog W .any base t v := hval0
  have hA : DataW.TrodAll enc Try.prog W 0 (fun _ => true) true Try.f7.params.toList args.toList ds p := hA0
  clear hval0 hA0
  rw [Try.params7] at hA hval
  obtain ⟨v0, vs0, d0, ds0, p0, q0, hargs, rfl, rfl, h0, r0⟩ := trodAll_cons hA
  obtain ⟨v1, vs1, d1, ds1, p1, q1, rfl, rfl, rfl, h1, r1⟩ := trodAll_cons r0
  obtain ⟨rfl, rfl, rfl⟩ := trodAll_nil r1
  obtain rfl : args = #[v0, v1] := by cases args; simp_all
  obtain ⟨Aa, ca, a, rfl, hla, hma, hSa⟩ := Ent.openedS (hval 0 29 v0 rfl rfl) h0 (fun x hx => hlt x (by simp [hx])) (fun b o h => hnf b o (by simp [h]))
  obtain ⟨Ab, cb, b, rfl, hlb, hmb, hSb⟩ := Ent.openedS (hval 1 29 v1 rfl rfl) h1 (fun x hx => hlt x (by simp [hx])) (fun b o h => hnf b o (by simp [h]))
  exact walk Aa ca a hla hma Ab cb b hlb hmb W hSa hSb

theorem over : Rows.fnExactIsBeginningRow.holds Try.pinned (OpenSpec.ofChange Rows.fnExactIsBeginningSpec) :=
  OpenClaim.holds_of_wide 7 Try.f7 rfl rfl rfl rfl rfl rfl rfl ⟨rfl, rfl, rfl, rfl, rfl⟩ rfl rfl rfl rfl rfl (by kernel_rfl) Try.func7 (by kernel_rfl)
    (of_decide_eq_true (by kernel_rfl)) (by unfold Func.isWrapper; first | (rw [if_pos (by decide +kernel)]; kernel_rfl) | (rw [if_neg (by decide +kernel)]; exact ⟨rfl, rfl⟩))
    (fun os started H enc _ => lifted os started H enc)

theorem proved : Rows.FnExactIsBeginningSaid :=
  over
#print axioms proved
end Go.Proofs.Ytbgngfpofkmfnaa.lawIsBeginning

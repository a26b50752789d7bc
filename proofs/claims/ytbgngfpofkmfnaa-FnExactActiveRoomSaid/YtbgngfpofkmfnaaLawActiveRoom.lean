/- FnExactActiveRoom: the program's ActiveRoom returns what the reference's returns, for all arguments. No conditions. -/
import Derived.Test.YtbgngfpofkmfnaaPlace
import Derived.Test.YtbgngfpofkmfnaaEntArg
namespace Go.Proofs.Ytbgngfpofkmfnaa.lawActiveRoom
open Go.ChangeShapes Go.WideShapes Go.ChangeAt Go.RowKit Go.Joins Go.Proofs.Ytbgngfpofkmfnaa

set_option maxHeartbeats 4000000 in
theorem walk (Ah : Option Addr) (ch : Nat) (h : List Ent) (hlh : h.length ≤ maxLen) (hmh : ∀ x ∈ h, x.t.size ≤ maxLen) (m : Int) (w : World) (hSh : Ents w 0 w.heap.size Ah h) : Calls Try.prog 14 #[.slice Ah h.length ch, .int .i64 m] w fun e w' => e = .returned (.bool true) ∧ Below w.heap.size w w' := by
  go_enter Try.func14, Try.ntmps14
  go_wp2_with fail
  refine (szEntryS_any Ah ch h _ _ hlh hmh hSh (by omega) (by omega)).mono ?_
  rintro e w1 ⟨r0, rfl, hr0, hrest, hb⟩
  have hb1 : Below w.heap.size w w1 := Below.on' (by go_grown) hb
  clear hb
  have hB1 : Below w.heap.size w w1 := hb1
  have z1 : w.heap.size ≤ w1.heap.size := hb1.size
  by_cases h0r0 : r0 < 0
  · go_wp2
    go_ret
    exact ⟨rfl, hB1⟩
  obtain ⟨hl'h, hm'h⟩ := hrest (by omega)
  clear hrest
  go_wp2_with fail
  refine (toEntryS_any Ah ch h _ hl'h (hSh.below hB1).all).mono ?_
  rintro e w2 ⟨gt0, rfl, hU, hb⟩
  have hb2 : Below w1.heap.size w1 w2 := Below.on' (by go_grown) hb
  clear hb
  have hB2 : Below w.heap.size w w2 := Below.on' hB1 hb2
  have z2 : w1.heap.size ≤ w2.heap.size := hb2.size
  have hTt0 := hU.mono (lo' := w1.heap.size) (hi' := w2.heap.size) (by first | exact Nat.le_refl _ | (simp; done) | (simp; omega)) (Nat.le_refl _) (Nat.le_refl _)
  clear hU
  go_wp2_with fail
  refine (ActiveRoom_spec _ _ h m _ hl'h hm'h hTt0.all (Nat.le_refl _)).mono ?_
  rintro e w3 ⟨rfl, hb⟩
  have hb3 : Below w2.heap.size w2 w3 := Below.on' (by go_grown) hb
  clear hb
  have hB3 : Below w.heap.size w w3 := Below.on' hB2 hb3
  have z3 : w2.heap.size ≤ w3.heap.size := hb3.size
  replace hTt0 := hTt0.below hb3
  clear hTt0
  go_wp2_with fail
  refine (toEntryS_any Ah ch h _ hl'h (hSh.below hB3).all).mono ?_
  rintro e w4 ⟨gx0, rfl, hU, hb⟩
  have hb4 : Below w3.heap.size w3 w4 := Below.on' (by go_grown) hb
  clear hb
  have hB4 : Below w.heap.size w w4 := Below.on' hB3 hb4
  have z4 : w3.heap.size ≤ w4.heap.size := hb4.size
  have hTx0 := hU.mono (lo' := w3.heap.size) (hi' := w4.heap.size) (by first | exact Nat.le_refl _ | (simp; done) | (simp; omega)) (Nat.le_refl _) (Nat.le_refl _)
  clear hU
  go_wp2_with fail
  refine (ActiveRoom_impl _ _ h m _ hl'h hm'h hTx0.all (Nat.le_refl _)).mono ?_
  rintro e w5 ⟨rfl, hb⟩
  have hb5 : Below w4.heap.size w4 w5 := Below.on' (by go_grown) hb
  clear hb
  have hB5 : Below w.heap.size w w5 := Below.on' hB4 hb5
  have z5 : w4.heap.size ≤ w5.heap.size := hb5.size
  replace hTx0 := hTx0.below hb5
  go_wp2_with fail
  refine (toEntryS_any Ah ch h _ hl'h (hSh.below hB5).all).mono ?_
  rintro e w6 ⟨gy, rfl, hU, hb⟩
  have hb6 : Below w5.heap.size w5 w6 := Below.on' (by go_grown) hb
  clear hb
  have hB6 : Below w.heap.size w w6 := Below.on' hB5 hb6
  have z6 : w5.heap.size ≤ w6.heap.size := hb6.size
  replace hTx0 := hTx0.below hb6
  have hTy := hU.mono (lo' := w5.heap.size) (hi' := w6.heap.size) (by first | exact Nat.le_refl _ | (simp; done) | (simp; omega)) (Nat.le_refl _) (Nat.le_refl _)
  clear hU
  go_wp2_with fail
  refine (eqEntryS_same _ _ _ _ _ _ _ _ _ _ hl'h hTx0 hTy).mono ?_
  rintro e w7 ⟨rfl, hb⟩
  have hb7 : Below w6.heap.size w6 w7 := Below.on' (by go_grown) hb
  clear hb
  have hB7 : Below w.heap.size w w7 := Below.on' hB6 hb7
  have z7 : w6.heap.size ≤ w7.heap.size := hb7.size
  replace hTx0 := hTx0.below hb7
  replace hTy := hTy.below hb7
  clear hTy
  go_wp2_with fail
  go_ret
  exact ⟨rfl, hB7⟩

set_option maxRecDepth 100000 in
theorem lifted (os : Os) (started : os.Started) (H : Type) (enc : TypeId × Value → H) :
    ReturnsInHanded {} Try.checked os 14 .any (Rows.fnExactActiveRoomSpec.pre6 enc Try.prog Try.f14 Rows.fnExactActiveRoomRow.domain false) (Rows.fnExactActiveRoomSpec.post enc Try.prog Try.f14 false true false false) := by
  refine law_lifted (C := Try.checked) own started (by kernel_rfl) Try.func14
    (ChangeSpec.witness6 (enc := enc) (C := Try.checked) false ⟨#[], #[.slice none 0 0, .int .i64 0], []⟩ 8 (by kernel_rfl) (by kernel_rfl) (by kernel_rfl) (by kernel_rfl))
    laidOut 4 (by kernel_rfl) Try.underlying4 (by kernel_rfl) rfl ?_ ?_
  · intro ds hds
    have hn : Try.f14.params.size = 2 := by kernel_rfl
    rw [hn] at hds
    match ds, hds with
    | [d0, d1], _ => rfl
  intro W base args ds p hval0 hA0 hlt hnf hsh
  have hval : ∀ (j : Nat) t v, Try.f14.params[j]? = some t → args[j]? = some v → Value.okWide Try.prog W .any base t v := hval0
  have hA : DataW.TrodAll enc Try.prog W 0 (fun _ => true) true Try.f14.params.toList args.toList ds p := hA0
  clear hval0 hA0
  rw [Try.params14] at hA hval
  obtain ⟨v0, vs0, d0, ds0, p0, q0, hargs, rfl, rfl, h0, r0⟩ := trodAll_cons hA
  obtain ⟨v1, vs1, d1, ds1, p1, q1, rfl, rfl, rfl, h1, r1⟩ := trodAll_cons r0
  obtain ⟨rfl, rfl, rfl⟩ := trodAll_nil r1
  obtain rfl : args = #[v0, v1] := by cases args; simp_all
  obtain ⟨Ah, ch, h, rfl, hlh, hmh, hSh⟩ := Ent.openedS (hval 0 29 v0 rfl rfl) h0 (fun x hx => hlt x (by simp [hx])) (fun b o h => hnf b o (by simp [h]))
  obtain ⟨m, rfl, rfl, rfl, wm⟩ := open_int Try.underlying3 (hval 1 3 v1 rfl rfl) h1
  exact walk Ah ch h hlh hmh m W hSh

theorem over : Rows.fnExactActiveRoomRow.holds Try.pinned (OpenSpec.ofChange Rows.fnExactActiveRoomSpec) :=
  OpenClaim.holds_of_wide 14 Try.f14 rfl rfl rfl rfl rfl rfl rfl ⟨rfl, rfl, rfl, rfl, rfl⟩ rfl rfl rfl rfl rfl (by kernel_rfl) Try.func14 (by kernel_rfl)
    (of_decide_eq_true (by kernel_rfl)) (by unfold Func.isWrapper; first | (rw [if_pos (by decide +kernel)]; kernel_rfl) | (rw [if_neg (by decide +kernel)]; exact ⟨rfl, rfl⟩))
    (fun os started H enc _ => lifted os started H enc)

theorem proved : Rows.FnExactActiveRoomSaid :=
  over
#print axioms proved
end Go.Proofs.Ytbgngfpofkmfnaa.lawActiveRoom

/- FnExactFirstConflict: the program's FirstConflict returns what the reference's returns, for all arguments. No conditions. -/
import Derived.Test.YtbgngfpofkmfnaaConf
import Derived.Test.YtbgngfpofkmfnaaEntArg
namespace Go.Proofs.Ytbgngfpofkmfnaa.lawFirstConflict
open Go.ChangeShapes Go.WideShapes Go.ChangeAt Go.RowKit Go.Joins Go.Proofs.Ytbgngfpofkmfnaa

set_option maxHeartbeats 1000000 in
theorem walk (Aa : Option Addr) (ca : Nat) (a : List Ent) (hla : a.length ≤ maxLen) (hma : ∀ x ∈ a, x.t.size ≤ maxLen) (Ab : Option Addr) (cb : Nat) (b : List Ent) (hlb : b.length ≤ maxLen) (hmb : ∀ x ∈ b, x.t.size ≤ maxLen) (w : World) (hSa : Ents w 0 w.heap.size Aa a) (hSb : Ents w 0 w.heap.size Ab b) : Calls Try.prog 5 #[.slice Aa a.length ca, .slice Ab b.length cb] w fun e w' => e = .returned (.bool true) ∧ Below w.heap.size w w' := by
  go_enter Try.func5, Try.ntmps5
  go_wp2_with fail
  refine (szEntryS_any Aa ca a _ _ hla hma hSa (by omega) (by omega)).mono ?_
  rintro e w1 ⟨r0, rfl, hr0, hrest, hb⟩
  have hB1 : Below w.heap.size w w1 := Below.on' (by go_grown) hb
  clear hb
  by_cases h0r0 : r0 < 0
  · go_wp2
    go_ret
    exact ⟨rfl, hB1⟩
  obtain ⟨hl'a, hm'a⟩ := hrest (by omega)
  clear hrest
  go_wp2_with fail
  refine (szEntryS_any Ab cb b _ _ hlb hmb ((hSb.below hB1).mono (Nat.le_refl _) hB1.size (Nat.le_refl _)) (by omega) (by omega)).mono ?_
  rintro e w2 ⟨r1, rfl, hr1, hrest, hb⟩
  have hB2 : Below w.heap.size w w2 := Below.on' hB1 hb
  clear hb
  by_cases h0r1 : r1 < 0
  · go_wp2
    go_ret
    exact ⟨rfl, hB2⟩
  obtain ⟨hl'b, hm'b⟩ := hrest (by omega)
  clear hrest
  go_wp2_with fail
  refine (toEntryS_any Aa ca a _ hl'a ((hSa.below hB2).mono (Nat.le_refl _) hB2.size (Nat.le_refl _))).mono ?_
  rintro e w3 ⟨g3, rfl, hU, hb⟩
  have hB3 : Below w.heap.size w w3 := Below.on' hB2 hb
  clear hb
  have hTg3 := hU.mono (Nat.zero_le _) (Nat.le_refl _) (Nat.le_refl _)
  clear hU
  go_wp2_with fail
  refine (toEntryS_any Ab cb b _ hl'b ((hSb.below hB3).mono (Nat.le_refl _) hB3.size (Nat.le_refl _))).mono ?_
  rintro e w4 ⟨g4, rfl, hU, hb⟩
  have hB4 : Below w.heap.size w w4 := Below.on' hB3 hb
  replace hTg3 := (hTg3.below hb).mono (Nat.le_refl _) hb.size (Nat.le_refl _)
  clear hb
  have hTg4 := hU.mono (Nat.zero_le _) (Nat.le_refl _) (Nat.le_refl _)
  clear hU
  go_wp2_with fail
  refine (FirstConflict_spec _ _ _ _ a b _ hla hma hTg3 hlb hmb hTg4).mono ?_
  rintro e w5 ⟨rfl, hb⟩
  have hB5 : Below w.heap.size w w5 := Below.on' hB4 hb
  replace hTg3 := (hTg3.below hb).mono (Nat.le_refl _) hb.size (Nat.le_refl _)
  replace hTg4 := (hTg4.below hb).mono (Nat.le_refl _) hb.size (Nat.le_refl _)
  clear hb
  clear hTg3
  clear hTg4
  go_wp2_with fail
  refine (toEntryS_any Aa ca a _ hl'a ((hSa.below hB5).mono (Nat.le_refl _) hB5.size (Nat.le_refl _))).mono ?_
  rintro e w6 ⟨g6, rfl, hU, hb⟩
  have hB6 : Below w.heap.size w w6 := Below.on' hB5 hb
  clear hb
  have hTg6 := hU.mono (Nat.zero_le _) (Nat.le_refl _) (Nat.le_refl _)
  clear hU
  go_wp2_with fail
  refine (toEntryS_any Ab cb b _ hl'b ((hSb.below hB6).mono (Nat.le_refl _) hB6.size (Nat.le_refl _))).mono ?_
  rintro e w7 ⟨g7, rfl, hU, hb⟩
  have hB7 : Below w.heap.size w w7 := Below.on' hB6 hb
  replace hTg6 := (hTg6.below hb).mono (Nat.le_refl _) hb.size (Nat.le_refl _)
  clear hb
  have hTg7 := hU.mono (Nat.zero_le _) (Nat.le_refl _) (Nat.le_refl _)
  clear hU
  go_wp2_with fail
  refine (FirstConflict_impl _ _ _ _ a b _ hla hma hTg6 hlb hmb hTg7).mono ?_
  rintro e w8 ⟨rfl, hb⟩
  have hB8 : Below w.heap.size w w8 := Below.on' hB7 hb
  replace hTg6 := (hTg6.below hb).mono (Nat.le_refl _) hb.size (Nat.le_refl _)
  replace hTg7 := (hTg7.below hb).mono (Nat.le_refl _) hb.size (Nat.le_refl _)
  clear hb
  go_wp2_with fail
  refine (toEntryS_any Aa ca a _ hl'a ((hSa.below hB8).mono (Nat.le_refl _) hB8.size (Nat.le_refl _))).mono ?_
  rintro e w9 ⟨g9, rfl, hU, hb⟩
  have hB9 : Below w.heap.size w w9 := Below.on' hB8 hb
  replace hTg6 := (hTg6.below hb).mono (Nat.le_refl _) hb.size (Nat.le_refl _)
  replace hTg7 := (hTg7.below hb).mono (Nat.le_refl _) hb.size (Nat.le_refl _)
  clear hb
  have hTg9 := hU.mono (Nat.zero_le _) (Nat.le_refl _) (Nat.le_refl _)
  clear hU
  go_wp2_with fail
  refine (eqEntryS_same _ _ _ _ _ _ _ _ a _ hl'a hTg6 hTg9).mono ?_
  rintro e w10 ⟨rfl, hb⟩
  have hB10 : Below w.heap.size w w10 := Below.on' hB9 hb
  replace hTg6 := (hTg6.below hb).mono (Nat.le_refl _) hb.size (Nat.le_refl _)
  replace hTg7 := (hTg7.below hb).mono (Nat.le_refl _) hb.size (Nat.le_refl _)
  replace hTg9 := (hTg9.below hb).mono (Nat.le_refl _) hb.size (Nat.le_refl _)
  clear hb
  clear hTg9
  go_wp2_with fail
  refine (toEntryS_any Ab cb b _ hl'b ((hSb.below hB10).mono (Nat.le_refl _) hB10.size (Nat.le_refl _))).mono ?_
  rintro e w11 ⟨g11, rfl, hU, hb⟩
  have hB11 : Below w.heap.size w w11 := Below.on' hB10 hb
  replace hTg6 := (hTg6.below hb).mono (Nat.le_refl _) hb.size (Nat.le_refl _)
  replace hTg7 := (hTg7.below hb).mono (Nat.le_refl _) hb.size (Nat.le_refl _)
  clear hb
  have hTg11 := hU.mono (Nat.zero_le _) (Nat.le_refl _) (Nat.le_refl _)
  clear hU
  go_wp2_with fail
  refine (eqEntryS_same _ _ _ _ _ _ _ _ b _ hl'b hTg7 hTg11).mono ?_
  rintro e w12 ⟨rfl, hb⟩
  have hB12 : Below w.heap.size w w12 := Below.on' hB11 hb
  replace hTg6 := (hTg6.below hb).mono (Nat.le_refl _) hb.size (Nat.le_refl _)
  replace hTg7 := (hTg7.below hb).mono (Nat.le_refl _) hb.size (Nat.le_refl _)
  replace hTg11 := (hTg11.below hb).mono (Nat.le_refl _) hb.size (Nat.le_refl _)
  clear hb
  clear hTg11
  go_wp2
  go_ret
  exact ⟨rfl, hB12⟩

set_option maxRecDepth 100000 in
theorem lifted (os : Os) (started : os.Started) (H : Type) (enc : TypeId × Value → H) :
    ReturnsInHanded {} Try.checked os 5 .any (Rows.fnExactFirstConflictSpec.pre6 enc Try.prog Try.f5 Rows.fnExactFirstConflictRow.domain false) (Rows.fnExactFirstConflictSpec.post enc Try.prog Try.f5 false true false false) := by
  refine law_lifted (C := Try.checked) own started (by kernel_rfl) Try.func5
    (ChangeSpec.witness6 (enc := enc) (C := Try.checked) false ⟨#[], #[.slice none 0 0, .slice none 0 0], []⟩ 8 (by kernel_rfl) (by kernel_rfl) (by kernel_rfl) (by kernel_rfl))
    laidOut 4 (by kernel_rfl) Try.underlying4 (by kernel_rfl) rfl ?_ ?_
  · intro ds hds
    have hn : Try.f5.params.size = 2 := by kernel_rfl
    rw [hn] at hds
    match ds, hds with
    | [d0, d1], _ => rfl
  intro W base args ds p hval0 hA0 hlt hnf hsh
  have hval : ∀ (j : Nat) t v, Try.f5.params[j]? = some t → args[j]? = some v → Value.okWide Try.prog W .any base t v := hval0
  have hA : DataW.TrodAll enc Try.prog W 0 (fun _ => true) true Try.f5.params.toList args.toList ds p := hA0
  clear hval0 hA0
  rw [Try.params5] at hA hval
  obtain ⟨v0, vs0, d0, ds0, p0, q0, hargs, rfl, rfl, h0, r0⟩ := trodAll_cons hA
  obtain ⟨v1, vs1, d1, ds1, p1, q1, rfl, rfl, rfl, h1, r1⟩ := trodAll_cons r0
  obtain ⟨rfl, rfl, rfl⟩ := trodAll_nil r1
  obtain rfl : args = #[v0, v1] := by cases args; simp_all
  obtain ⟨Aa, ca, a, rfl, hla, hma, hSa⟩ := Ent.openedS (hval 0 29 v0 rfl rfl) h0 (fun x hx => hlt x (by simp [hx])) (fun b o h => hnf b o (by simp [h]))
  obtain ⟨Ab, cb, b, rfl, hlb, hmb, hSb⟩ := Ent.openedS (hval 1 29 v1 rfl rfl) h1 (fun x hx => hlt x (by simp [hx])) (fun b o h => hnf b o (by simp [h]))
  exact walk Aa ca a hla hma Ab cb b hlb hmb W hSa hSb

theorem over : Rows.fnExactFirstConflictRow.holds Try.pinned (OpenSpec.ofChange Rows.fnExactFirstConflictSpec) :=
  OpenClaim.holds_of_wide 5 Try.f5 rfl rfl rfl rfl rfl rfl rfl ⟨rfl, rfl, rfl, rfl, rfl⟩ rfl rfl rfl rfl rfl (by kernel_rfl) Try.func5 (by kernel_rfl)
    (of_decide_eq_true (by kernel_rfl)) (by unfold Func.isWrapper; first | (rw [if_pos (by decide +kernel)]; kernel_rfl) | (rw [if_neg (by decide +kernel)]; exact ⟨rfl, rfl⟩))
    (fun os started H enc _ => lifted os started H enc)

theorem proved : Rows.FnExactFirstConflictSaid :=
  over
#print axioms proved
end Go.Proofs.Ytbgngfpofkmfnaa.lawFirstConflict

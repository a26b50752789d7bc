/- FnExactSilentTime: the program's SilentTime returns what the reference's returns, for all arguments. No conditions. -/
import Derived.Test.YtbgngfpofkmfnaaSilent
import Derived.Test.YtbgngfpofkmfnaaEntArg
namespace Go.Proofs.Ytbgngfpofkmfnaa.lawSilentTime
open Go.ChangeShapes Go.WideShapes Go.ChangeAt Go.RowKit Go.Joins Go.Proofs.Ytbgngfpofkmfnaa

set_option maxHeartbeats 1000000 in
theorem walk (A : Option Addr) (c : Nat) (l : List Ent) (hl : l.length ≤ maxLen) (hm : ∀ x ∈ l, x.t.size ≤ maxLen) (w : World) (hS : Ents w 0 w.heap.size A l) : Calls Try.prog 6 #[.slice A l.length c] w fun e w' => e = .returned (.bool true) ∧ Below w.heap.size w w' := by
  go_enter Try.func6, Try.ntmps6
  go_wp2_with fail
  refine (szEntryS_any A c l _ _ hl hm hS (by omega) (by omega)).mono ?_
  rintro e w1 ⟨r, rfl, hr, hrest, hb⟩
  have hB1 : Below w.heap.size w w1 := Below.on' (by go_grown) hb
  by_cases h0 : r < 0
  · go_wp2
    go_ret
    exact ⟨rfl, hB1⟩
  obtain ⟨hl', hm'⟩ := hrest (by omega)
  have hmL : ∀ x ∈ l, x.t.size ≤ maxLen := hm
  clear hrest hb
  have hS1 := (hS.below hB1).mono (Nat.le_refl _) hB1.size (Nat.le_refl _)
  go_wp2_with fail
  refine (toEntryS_any A c l _ hl' hS1).mono ?_
  rintro e w2 ⟨g, rfl, hT, hb⟩
  have hB2 : Below w.heap.size w w2 := Below.on' hB1 hb
  clear hb
  go_wp2_with fail
  refine (SilentTime_spec _ _ l _ hl hmL (hT.mono (Nat.zero_le _) (Nat.le_refl _) (Nat.le_refl _)) (Nat.le_refl _)).mono ?_
  rintro e w3 ⟨rfl, hb⟩
  have hB3 : Below w.heap.size w w3 := Below.on' hB2 hb
  clear hb hT hB2
  have hS3 := (hS.below hB3).mono (Nat.le_refl _) hB3.size (Nat.le_refl _)
  go_wp2_with fail
  refine (toEntryS_any A c l _ hl' hS3).mono ?_
  rintro e w4 ⟨g', rfl, hT4, hb⟩
  have hB4 : Below w.heap.size w w4 := Below.on' hB3 hb
  clear hb
  go_wp2_with fail
  refine (SilentTime_impl _ _ l _ hl hmL (hT4.mono (Nat.zero_le _) (Nat.le_refl _) (Nat.le_refl _)) (Nat.le_refl _)).mono ?_
  rintro e w5 ⟨rfl, hb⟩
  have hB5 : Below w.heap.size w w5 := Below.on' hB4 hb
  have hT5 := (hT4.below hb).mono (Nat.zero_le _) hb.size (Nat.le_refl _)
  clear hb hT4
  have hS5 := (hS.below hB5).mono (Nat.le_refl _) hB5.size (Nat.le_refl _)
  go_wp2_with fail
  refine (toEntryS_any A c l _ hl' hS5).mono ?_
  rintro e w6 ⟨g6, rfl, hT6, hb⟩
  have hB6 : Below w.heap.size w w6 := Below.on' hB5 hb
  have hT7 := hT5.below hb
  clear hb
  go_wp2_with fail
  refine (eqEntryS_same _ _ _ _ _ _ _ _ l _ hl' hT7 hT6).mono ?_
  rintro e w7 ⟨rfl, hb⟩
  have hB7 : Below w.heap.size w w7 := Below.on' hB6 hb
  clear hb
  go_wp2
  go_ret
  exact ⟨rfl, hB7⟩

set_option maxRecDepth 100000 in
theorem lifted (os : Os) (started : os.Started) (H : Type) (enc : TypeId × Value → H) :
    ReturnsInHanded {} Try.checked os 6 .any (Rows.fnExactSilentTimeSpec.pre6 enc Try.prog Try.f6 Rows.fnExactSilentTimeRow.domain false) (Rows.fnExactSilentTimeSpec.post enc Try.prog Try.f6 false true false false) := by
  refine law_lifted (C := Try.checked) own started (by kernel_rfl) Try.func6
    (ChangeSpec.witness6 (enc := enc) (C := Try.checked) false ⟨#[], #[.slice none 0 0], []⟩ 8 (by kernel_rfl) (by kernel_rfl) (by kernel_rfl) (by kernel_rfl))
    laidOut 4 (by kernel_rfl) Try.underlying4 (by kernel_rfl) rfl ?_ ?_
  · intro ds hds
    have hn : Try.f6.params.size = 1 := by kernel_rfl
    rw [hn] at hds
    match ds, hds with
    | [d0], _ => rfl
  intro W base args ds p hval0 hA0 hlt hnf hsh
  have hval : ∀ (j : Nat) t v, Try.f6.params[j]? = some t → args[j]? = some v → Value.okWide Try.prog W .any base t v := hval0
  have hA : DataW.TrodAll enc Try.prog W 0 (fun _ => true) true Try.f6.params.toList args.toList ds p := hA0
  clear hval0 hA0
  rw [Try.params6] at hA hval
  obtain ⟨v0, vs0, d0, ds0, p0, q0, hargs, rfl, rfl, h0, r0⟩ := trodAll_cons hA
  obtain ⟨rfl, rfl, rfl⟩ := trodAll_nil r0
  obtain rfl : args = #[v0] := by cases args; simp_all
  obtain ⟨Al, cl, l, rfl, hll, hml, hSl⟩ := Ent.openedS (hval 0 29 v0 rfl rfl) h0 (fun x hx => hlt x (by simp [hx])) (fun b o h => hnf b o (by simp [h]))
  exact walk Al cl l hll hml W hSl

theorem over : Rows.fnExactSilentTimeRow.holds Try.pinned (OpenSpec.ofChange Rows.fnExactSilentTimeSpec) :=
  OpenClaim.holds_of_wide 6 Try.f6 rfl rfl rfl rfl rfl rfl rfl ⟨rfl, rfl, rfl, rfl, rfl⟩ rfl rfl rfl rfl rfl (by kernel_rfl) Try.func6 (by kernel_rfl)
    (of_decide_eq_true (by kernel_rfl)) (by unfold Func.isWrapper; first | (rw [if_pos (by decide +kernel)]; kernel_rfl) | (rw [if_neg (by decide +kernel)]; exact ⟨rfl, rfl⟩))
    (fun os started H enc _ => lifted os started H enc)

theorem proved : Rows.FnExactSilentTimeSaid :=
  over
#print axioms proved
end Go.Proofs.Ytbgngfpofkmfnaa.lawSilentTime

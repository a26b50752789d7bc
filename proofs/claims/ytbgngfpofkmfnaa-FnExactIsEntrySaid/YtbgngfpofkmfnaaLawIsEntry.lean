/- FnExactIsEntry: the program's IsEntry returns what the reference's returns, for all arguments. No conditions. -/
import Derived.Test.YtbgngfpofkmfnaaText
import Derived.Test.YtbgngfpofkmfnaaEntArg
namespace Go.Proofs.Ytbgngfpofkmfnaa.lawIsEntry
open Go.ChangeShapes Go.WideShapes Go.ChangeAt Go.RowKit Go.Joins Go.Proofs.Ytbgngfpofkmfnaa

set_option maxHeartbeats 400000 in
theorem walk (x : Ent) (hx : x.t.size ≤ maxLen) (w : World) : Calls Try.prog 3 #[.agg #[.int .i64 x.r, .int .i64 x.n, .int .i64 x.m, .string x.t]] w fun e w' => e = .returned (.bool true) ∧ Below w.heap.size w w' := by
  go_enter Try.func3, Try.ntmps3
  go_wp2_with (first
    | (go_at_call 15; refine (szEntry_any _ _ _ _ _ hx (by omega) (by omega) _).mono ?_; rintro e w1 ⟨rfl, hb⟩; obtain ⟨hc, hf, hl, hz⟩ := bfam hb; (try simp at hz); (try (have k0 : w.heap.size < w1.heap.size := (by omega))); have hB : Below w.heap.size w w1 := Below.on' (by go_grown) hb; clear hb)
    | (go_at_call 17; refine (toEntry_any _ _ _ _ _).mono ?_; rintro e w1 ⟨rfl, hb⟩; obtain ⟨hc, hf, hl, hz⟩ := bfam hb; (try simp at hz); (try (have k0 : w.heap.size < w1.heap.size := (by omega))); have hB : Below w.heap.size w w1 := Below.on' (by go_grown) hb; clear hb)
    | (go_at_call 16; refine (IsEntry_spec _ _ _ _ hx _).mono ?_; rintro e w1 ⟨rfl, hb⟩; obtain ⟨hc, hf, hl, hz⟩ := bfam hb; (try simp at hz); (try (have k0 : w.heap.size < w1.heap.size := (by omega))); have hB : Below w.heap.size w w1 := Below.on' (by go_grown) hb; clear hb)
    | (go_at_call 18; refine (IsEntry_impl _ _ _ _ hx _).mono ?_; rintro e w1 ⟨rfl, hb⟩; obtain ⟨hc, hf, hl, hz⟩ := bfam hb; (try simp at hz); (try (have k0 : w.heap.size < w1.heap.size := (by omega))); have hB : Below w.heap.size w w1 := Below.on' (by go_grown) hb; clear hb))
  all_goals go_ret
  all_goals (go_tidy; refine ⟨?_, ?_⟩; (· first | rfl | (simp; done) | (simp_all; done)); (· go_grown))

set_option maxRecDepth 100000 in
theorem lifted (os : Os) (started : os.Started) (H : Type) (enc : TypeId × Value → H) :
    ReturnsInHanded {} Try.checked os 3 .any (Rows.fnExactIsEntrySpec.pre6 enc Try.prog Try.f3 Rows.fnExactIsEntryRow.domain false) (Rows.fnExactIsEntrySpec.post enc Try.prog Try.f3 false true false false) := by
  refine law_lifted (C := Try.checked) own started (by kernel_rfl) Try.func3
    (ChangeSpec.witness6 (enc := enc) (C := Try.checked) false ⟨#[], #[.agg #[.int .i64 0, .int .i64 0, .int .i64 0, .string ⟨#[]⟩]], []⟩ 8 (by kernel_rfl) (by kernel_rfl) (by kernel_rfl) (by kernel_rfl))
    laidOut 4 (by kernel_rfl) Try.underlying4 (by kernel_rfl) rfl ?_ ?_
  · intro ds hds
    have hn : Try.f3.params.size = 1 := by kernel_rfl
    rw [hn] at hds
    match ds, hds with
    | [d0], _ => rfl
  intro W base args ds p hval0 hA0 hlt hnf hsh
  have hval : ∀ (j : Nat) t v, Try.f3.params[j]? = some t → args[j]? = some v → Value.okWide Try.prog W .any base t v := hval0
  have hA : DataW.TrodAll enc Try.prog W 0 (fun _ => true) true Try.f3.params.toList args.toList ds p := hA0
  clear hval0 hA0
  rw [Try.params3] at hA hval
  obtain ⟨v0, vs0, d0, ds0, p0, q0, hargs, rfl, rfl, h0, r0⟩ := trodAll_cons hA
  obtain ⟨rfl, rfl, rfl⟩ := trodAll_nil r0
  obtain rfl : args = #[v0] := by cases args; simp_all
  obtain ⟨x, rfl, hx⟩ := Ent.opened (hval 0 23 v0 rfl rfl) h0
  exact walk x hx W

theorem over : Rows.fnExactIsEntryRow.holds Try.pinned (OpenSpec.ofChange Rows.fnExactIsEntrySpec) :=
  OpenClaim.holds_of_wide 3 Try.f3 rfl rfl rfl rfl rfl rfl rfl ⟨rfl, rfl, rfl, rfl, rfl⟩ rfl rfl rfl rfl rfl (by kernel_rfl) Try.func3 (by kernel_rfl)
    (of_decide_eq_true (by kernel_rfl)) (by unfold Func.isWrapper; first | (rw [if_pos (by decide +kernel)]; kernel_rfl) | (rw [if_neg (by decide +kernel)]; exact ⟨rfl, rfl⟩))
    (fun os started H enc _ => lifted os started H enc)

theorem proved : Rows.FnExactIsEntrySaid :=
  over
#print axioms proved
end Go.Proofs.Ytbgngfpofkmfnaa.lawIsEntry

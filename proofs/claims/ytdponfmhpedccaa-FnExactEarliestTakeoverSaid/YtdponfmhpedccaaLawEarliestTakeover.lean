/- FnExactEarliestTakeover: the program's EarliestTakeover returns what the reference's returns, for all arguments. No conditions. -/
import Derived.Test.YtdponfmhpedccaaLeaseB
import Derived.Test.YtdponfmhpedccaaRow
namespace Go.Proofs.Ytdponfmhpedccaa.lawEarliestTakeover
open Go.ChangeShapes Go.WideShapes Go.ChangeAt Go.RowKit Go.Joins Go.Proofs.Ytdponfmhpedccaa

set_option maxHeartbeats 400000 in
theorem walk (h u r s : Int) (w : World) : Calls Try.prog 6 #[.agg #[.int .i64 h, .int .i64 u], .int .i64 r, .int .i64 s] w fun e w' => e = .returned (.bool true) ∧ Below w.heap.size w w' := by
  go_enter Try.func6, Try.ntmps6
  go_wp2_with (first
    | (go_at_call 14; refine (toLease_any _ _ _).mono ?_; rintro e w1 ⟨rfl, hb⟩; obtain ⟨hc, hf, hz⟩ := bcell hb; (try simp at hz); (try (have k0 : w.heap.size < w1.heap.size := (by omega))); (try (have k1 : w.heap.size + 1 < w1.heap.size := (by omega))); (try (have k2 : w.heap.size + 1 + 1 < w1.heap.size := (by omega))); have hB : Below w.heap.size w w1 := (by refine Below.on ?_ ?_ hb <;> go_grown); clear hb)
    | (go_at_call 20; refine (EarliestTakeover_spec _ _ _ _ _).mono ?_; rintro e w1 ⟨rfl, hb⟩; obtain ⟨hc, hf, hz⟩ := bcell hb; (try simp at hz); (try (have k0 : w.heap.size < w1.heap.size := (by omega))); (try (have k1 : w.heap.size + 1 < w1.heap.size := (by omega))); (try (have k2 : w.heap.size + 1 + 1 < w1.heap.size := (by omega))); have hB : Below w.heap.size w w1 := (by refine Below.on ?_ ?_ hb <;> go_grown); clear hb)
    | (go_at_call 21; refine (EarliestTakeover_impl _ _ _ _ _).mono ?_; rintro e w1 ⟨rfl, hb⟩; obtain ⟨hc, hf, hz⟩ := bcell hb; (try simp at hz); (try (have k0 : w.heap.size < w1.heap.size := (by omega))); (try (have k1 : w.heap.size + 1 < w1.heap.size := (by omega))); (try (have k2 : w.heap.size + 1 + 1 < w1.heap.size := (by omega))); have hB : Below w.heap.size w w1 := (by refine Below.on ?_ ?_ hb <;> go_grown); clear hb))
  all_goals go_ret
  all_goals (go_tidy; refine ⟨?_, ?_⟩; (· first | rfl | (simp; done) | (simp_all; done)); (· go_grown))

theorem cells_0 : Try.prog.cellsOf 23 = 2 := by kernel_rfl
set_option maxRecDepth 100000 in
theorem lifted (os : Os) (started : os.Started) (H : Type) (enc : TypeId × Value → H) :
    ReturnsInHanded {} Try.checked os 6 .any (Rows.fnExactEarliestTakeoverSpec.pre6 enc Try.prog Try.f6 Rows.fnExactEarliestTakeoverRow.domain false) (Rows.fnExactEarliestTakeoverSpec.post enc Try.prog Try.f6 false true false false) := by
  refine law_lifted (C := Try.checked) own started (by kernel_rfl) Try.func6
    (ChangeSpec.witness6 (enc := enc) (C := Try.checked) false ⟨#[], #[.agg #[.int .i64 0, .int .i64 0], .int .i64 0, .int .i64 0], []⟩ 8 (by kernel_rfl) (by kernel_rfl) (by kernel_rfl) (by kernel_rfl))
    laidOut 4 (by kernel_rfl) Try.underlying4 (by kernel_rfl) rfl ?_ ?_
  · intro ds hds
    have hn : Try.f6.params.size = 3 := by kernel_rfl
    rw [hn] at hds
    match ds, hds with
    | [d0, d1, d2], _ => rfl
  intro W base args ds p hval0 hA0 hlt hsh
  have hval : ∀ (j : Nat) t v, Try.f6.params[j]? = some t → args[j]? = some v → Value.okWide Try.prog W .any base t v := hval0
  have hA : DataW.TrodAll enc Try.prog W 0 (fun _ => true) true Try.f6.params.toList args.toList ds p := hA0
  clear hval0 hA0
  rw [Try.params6] at hA hval
  obtain ⟨v0, vs0, d0, ds0, p0, q0, hargs, rfl, rfl, h0, r0⟩ := trodAll_cons hA
  obtain ⟨v1, vs1, d1, ds1, p1, q1, rfl, rfl, rfl, h1, r1⟩ := trodAll_cons r0
  obtain ⟨v2, vs2, d2, ds2, p2, q2, rfl, rfl, rfl, h2, r2⟩ := trodAll_cons r1
  obtain ⟨rfl, rfl, rfl⟩ := trodAll_nil r2
  obtain rfl : args = #[v0, v1, v2] := by cases args; simp_all
  obtain ⟨c00, c01, y00, y01, m0, rfl, rfl, rfl, hy00, hy01⟩ := open_agg2 Try.underlying23 (by kernel_rfl) cells_0 (hval 0 23 v0 rfl rfl) h0
  obtain ⟨h, e00, rfl, wh⟩ := DataW.trod_int Try.underlying3 hy00
  obtain ⟨u, e01, rfl, wu⟩ := DataW.trod_int Try.underlying3 hy01
  simp at e00 e01
  subst e00 e01
  obtain ⟨r, rfl, rfl, rfl, wr⟩ := open_int Try.underlying3 (hval 1 3 v1 rfl rfl) h1
  obtain ⟨s, rfl, rfl, rfl, ws⟩ := open_int Try.underlying3 (hval 2 3 v2 rfl rfl) h2
  exact walk h u r s W

theorem over : Rows.fnExactEarliestTakeoverRow.holds Try.pinned (OpenSpec.ofChange Rows.fnExactEarliestTakeoverSpec) :=
  OpenClaim.holds_of_wide 6 Try.f6 rfl rfl rfl rfl rfl rfl rfl ⟨rfl, rfl, rfl, rfl, rfl⟩ rfl rfl rfl rfl rfl (by kernel_rfl) Try.func6 (by kernel_rfl)
    (of_decide_eq_true (by kernel_rfl)) (by unfold Func.isWrapper; first | (rw [if_pos (by decide +kernel)]; kernel_rfl) | (rw [if_neg (by decide +kernel)]; exact ⟨rfl, rfl⟩))
    (fun os started H enc _ => lifted os started H enc)

theorem proved : Rows.FnExactEarliestTakeoverSaid :=
  over
#print axioms proved
end Go.Proofs.Ytdponfmhpedccaa.lawEarliestTakeover

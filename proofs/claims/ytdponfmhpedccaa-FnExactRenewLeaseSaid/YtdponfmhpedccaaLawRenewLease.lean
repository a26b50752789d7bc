/- FnExactRenewLease: the program's RenewLease returns what the reference's returns, for all arguments. No conditions. -/
import Derived.Test.YtdponfmhpedccaaLeaseB
import Derived.Test.YtdponfmhpedccaaRow
namespace Go.Proofs.Ytdponfmhpedccaa.lawRenewLease
open Go.ChangeShapes Go.WideShapes Go.ChangeAt Go.RowKit Go.Joins Go.Proofs.Ytdponfmhpedccaa

set_option maxHeartbeats 400000 in
theorem walk (h u r m s l : Int) (w : World) : Calls Try.prog 9 #[.agg #[.int .i64 h, .int .i64 u], .int .i64 r, .int .i64 m, .int .i64 s, .int .i64 l] w fun e w' => e = .returned (.bool true) ∧ Below w.heap.size w w' := by
  go_enter Try.func9, Try.ntmps9
  go_wp2_with fail
  refine (toLease_any _ _ _).mono ?_
  rintro e w1 ⟨rfl, hb⟩
  have hB : Below w.heap.size w w1 := Below.on' (by go_grown) hb
  have cp0 : w1.cell? ⟨w.heap.size, 0, none⟩ = some (.int .i64 h) := keep hb (by first | assumption | exact lay _ ‹_› | exact lay _ (lay _ ‹_›) | (simp; done) | (simp [*]; done))
  have cp1 : w1.cell? ⟨w.heap.size, 1, none⟩ = some (.int .i64 u) := keep hb (by first | assumption | exact lay _ ‹_› | exact lay _ (lay _ ‹_›) | (simp; done) | (simp [*]; done))
  have kp : w.heap.size < w1.heap.size := World.block_lt_of_cell? _ _ cp0
  clear hb
  go_wp2_with fail
  refine (RenewLease_spec _ _ _ _ _ _ _).mono ?_
  rintro e w2 ⟨rfl, hb⟩
  replace hB : Below w.heap.size w w2 := Below.on' (by go_grown) hb
  replace cp0 : w2.cell? ⟨w.heap.size, 0, none⟩ = some (.int .i64 h) := keep hb (by first | assumption | exact lay _ ‹_› | exact lay _ (lay _ ‹_›) | (simp; done) | (simp [*]; done))
  replace cp1 : w2.cell? ⟨w.heap.size, 1, none⟩ = some (.int .i64 u) := keep hb (by first | assumption | exact lay _ ‹_› | exact lay _ (lay _ ‹_›) | (simp; done) | (simp [*]; done))
  replace kp : w.heap.size < w2.heap.size := World.block_lt_of_cell? _ _ cp0
  clear hb
  go_wp2_with fail
  refine (toLease_any _ _ _).mono ?_
  rintro e w3 ⟨rfl, hb⟩
  replace hB : Below w.heap.size w w3 := Below.on' (by go_grown) hb
  replace cp0 : w3.cell? ⟨w.heap.size, 0, none⟩ = some (.int .i64 h) := keep hb (by first | assumption | exact lay _ ‹_› | exact lay _ (lay _ ‹_›) | (simp; done) | (simp [*]; done))
  replace cp1 : w3.cell? ⟨w.heap.size, 1, none⟩ = some (.int .i64 u) := keep hb (by first | assumption | exact lay _ ‹_› | exact lay _ (lay _ ‹_›) | (simp; done) | (simp [*]; done))
  replace kp : w.heap.size < w3.heap.size := World.block_lt_of_cell? _ _ cp0
  have ca0 : w3.cell? ⟨w2.heap.size, 0, none⟩ = some (.int .i64 (renewF h u r m s l).1.1) := keep hb (by first | assumption | exact lay _ ‹_› | exact lay _ (lay _ ‹_›) | (simp; done) | (simp [*]; done))
  have ca1 : w3.cell? ⟨w2.heap.size, 1, none⟩ = some (.int .i64 (renewF h u r m s l).1.2) := keep hb (by first | assumption | exact lay _ ‹_› | exact lay _ (lay _ ‹_›) | (simp; done) | (simp [*]; done))
  have ka : w2.heap.size < w3.heap.size := World.block_lt_of_cell? _ _ ca0
  clear hb
  go_wp2_with fail
  refine (RenewLease_impl _ _ _ _ _ _ _).mono ?_
  rintro e w4 ⟨rfl, hb⟩
  replace hB : Below w.heap.size w w4 := Below.on' (by go_grown) hb
  replace cp0 : w4.cell? ⟨w.heap.size, 0, none⟩ = some (.int .i64 h) := keep hb (by first | assumption | exact lay _ ‹_› | exact lay _ (lay _ ‹_›) | (simp; done) | (simp [*]; done))
  replace cp1 : w4.cell? ⟨w.heap.size, 1, none⟩ = some (.int .i64 u) := keep hb (by first | assumption | exact lay _ ‹_› | exact lay _ (lay _ ‹_›) | (simp; done) | (simp [*]; done))
  replace kp : w.heap.size < w4.heap.size := World.block_lt_of_cell? _ _ cp0
  replace ca0 : w4.cell? ⟨w2.heap.size, 0, none⟩ = some (.int .i64 (renewF h u r m s l).1.1) := keep hb (by first | assumption | exact lay _ ‹_› | exact lay _ (lay _ ‹_›) | (simp; done) | (simp [*]; done))
  replace ca1 : w4.cell? ⟨w2.heap.size, 1, none⟩ = some (.int .i64 (renewF h u r m s l).1.2) := keep hb (by first | assumption | exact lay _ ‹_› | exact lay _ (lay _ ‹_›) | (simp; done) | (simp [*]; done))
  replace ka : w2.heap.size < w4.heap.size := World.block_lt_of_cell? _ _ ca0
  clear hb
  go_wp2_with fail
  refine (eqLease_same _ _ _).mono ?_
  rintro e w5 ⟨rfl, hb⟩
  replace hB : Below w.heap.size w w5 := Below.on' (by go_grown) hb
  replace cp0 : w5.cell? ⟨w.heap.size, 0, none⟩ = some (.int .i64 h) := keep hb (by first | assumption | exact lay _ ‹_› | exact lay _ (lay _ ‹_›) | (simp; done) | (simp [*]; done))
  replace cp1 : w5.cell? ⟨w.heap.size, 1, none⟩ = some (.int .i64 u) := keep hb (by first | assumption | exact lay _ ‹_› | exact lay _ (lay _ ‹_›) | (simp; done) | (simp [*]; done))
  replace kp : w.heap.size < w5.heap.size := World.block_lt_of_cell? _ _ cp0
  replace ca0 : w5.cell? ⟨w2.heap.size, 0, none⟩ = some (.int .i64 (renewF h u r m s l).1.1) := keep hb (by first | assumption | exact lay _ ‹_› | exact lay _ (lay _ ‹_›) | (simp; done) | (simp [*]; done))
  replace ca1 : w5.cell? ⟨w2.heap.size, 1, none⟩ = some (.int .i64 (renewF h u r m s l).1.2) := keep hb (by first | assumption | exact lay _ ‹_› | exact lay _ (lay _ ‹_›) | (simp; done) | (simp [*]; done))
  replace ka : w2.heap.size < w5.heap.size := World.block_lt_of_cell? _ _ ca0
  have cb0 : w5.cell? ⟨w4.heap.size, 0, none⟩ = some (.int .i64 (renewF h u r m s l).1.1) := keep hb (by first | assumption | exact lay _ ‹_› | exact lay _ (lay _ ‹_›) | (simp; done) | (simp [*]; done))
  have cb1 : w5.cell? ⟨w4.heap.size, 1, none⟩ = some (.int .i64 (renewF h u r m s l).1.2) := keep hb (by first | assumption | exact lay _ ‹_› | exact lay _ (lay _ ‹_›) | (simp; done) | (simp [*]; done))
  have kb : w4.heap.size < w5.heap.size := World.block_lt_of_cell? _ _ cb0
  clear hb
  go_wp2_with fail
  go_ret
  exact ⟨rfl, hB⟩

theorem cells_0 : Try.prog.cellsOf 23 = 2 := by kernel_rfl
set_option maxRecDepth 100000 in
theorem lifted (os : Os) (started : os.Started) (H : Type) (enc : TypeId × Value → H) :
    ReturnsInHanded {} Try.checked os 9 .any (Rows.fnExactRenewLeaseSpec.pre6 enc Try.prog Try.f9 Rows.fnExactRenewLeaseRow.domain false) (Rows.fnExactRenewLeaseSpec.post enc Try.prog Try.f9 false true false false) := by
  refine law_lifted (C := Try.checked) own started (by kernel_rfl) Try.func9
    (ChangeSpec.witness6 (enc := enc) (C := Try.checked) false ⟨#[], #[.agg #[.int .i64 0, .int .i64 0], .int .i64 0, .int .i64 0, .int .i64 0, .int .i64 0], []⟩ 8 (by kernel_rfl) (by kernel_rfl) (by kernel_rfl) (by kernel_rfl))
    laidOut 4 (by kernel_rfl) Try.underlying4 (by kernel_rfl) rfl ?_ ?_
  · intro ds hds
    have hn : Try.f9.params.size = 5 := by kernel_rfl
    rw [hn] at hds
    match ds, hds with
    | [d0, d1, d2, d3, d4], _ => rfl
  intro W base args ds p hval0 hA0 hlt hsh
  have hval : ∀ (j : Nat) t v, Try.f9.params[j]? = some t → args[j]? = some v → Value.okWide Try.prog W .any base t v := hval0
  have hA : DataW.TrodAll enc Try.prog W 0 (fun _ => true) true Try.f9.params.toList args.toList ds p := hA0
  clear hval0 hA0
  rw [Try.params9] at hA hval
  obtain ⟨v0, vs0, d0, ds0, p0, q0, hargs, rfl, rfl, h0, r0⟩ := trodAll_cons hA
  obtain ⟨v1, vs1, d1, ds1, p1, q1, rfl, rfl, rfl, h1, r1⟩ := trodAll_cons r0
  obtain ⟨v2, vs2, d2, ds2, p2, q2, rfl, rfl, rfl, h2, r2⟩ := trodAll_cons r1
  obtain ⟨v3, vs3, d3, ds3, p3, q3, rfl, rfl, rfl, h3, r3⟩ := trodAll_cons r2
  obtain ⟨v4, vs4, d4, ds4, p4, q4, rfl, rfl, rfl, h4, r4⟩ := trodAll_cons r3
  obtain ⟨rfl, rfl, rfl⟩ := trodAll_nil r4
  obtain rfl : args = #[v0, v1, v2, v3, v4] := by cases args; simp_all
  obtain ⟨c00, c01, y00, y01, m0, rfl, rfl, rfl, hy00, hy01⟩ := open_agg2 Try.underlying23 (by kernel_rfl) cells_0 (hval 0 23 v0 rfl rfl) h0
  obtain ⟨h, e00, rfl, wh⟩ := DataW.trod_int Try.underlying3 hy00
  obtain ⟨u, e01, rfl, wu⟩ := DataW.trod_int Try.underlying3 hy01
  simp at e00 e01
  subst e00 e01
  obtain ⟨r, rfl, rfl, rfl, wr⟩ := open_int Try.underlying3 (hval 1 3 v1 rfl rfl) h1
  obtain ⟨m, rfl, rfl, rfl, wm⟩ := open_int Try.underlying3 (hval 2 3 v2 rfl rfl) h2
  obtain ⟨s, rfl, rfl, rfl, ws⟩ := open_int Try.underlying3 (hval 3 3 v3 rfl rfl) h3
  obtain ⟨l, rfl, rfl, rfl, wl⟩ := open_int Try.underlying3 (hval 4 3 v4 rfl rfl) h4
  exact walk h u r m s l W

theorem over : Rows.fnExactRenewLeaseRow.holds Try.pinned (OpenSpec.ofChange Rows.fnExactRenewLeaseSpec) :=
  OpenClaim.holds_of_wide 9 Try.f9 rfl rfl rfl rfl rfl rfl rfl ⟨rfl, rfl, rfl, rfl, rfl⟩ rfl rfl rfl rfl rfl (by kernel_rfl) Try.func9 (by kernel_rfl)
    (of_decide_eq_true (by kernel_rfl)) (by unfold Func.isWrapper; first | (rw [if_pos (by decide +kernel)]; kernel_rfl) | (rw [if_neg (by decide +kernel)]; exact ⟨rfl, rfl⟩))
    (fun os started H enc _ => lifted os started H enc)

theorem proved : Rows.FnExactRenewLeaseSaid :=
  over
#print axioms proved
end Go.Proofs.Ytdponfmhpedccaa.lawRenewLease

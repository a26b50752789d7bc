/- FnExactAnswerAsk: the program's AnswerAsk returns what the reference's returns, for all arguments. No conditions. -/
import Derived.Test.YtdponfmhpedccaaLeaseE
import Derived.Test.YtdponfmhpedccaaAks
import Derived.Test.YtdponfmhpedccaaRow
import Derived.Deep.DeepCutAuto
namespace Go.Proofs.Ytdponfmhpedccaa.lawAnswerAsk
open Go.ChangeShapes Go.WideShapes Go.ChangeAt Go.RowKit Go.Joins Go.Proofs.Ytdponfmhpedccaa

set_option maxHeartbeats 40000000 in
theorem walk (h u m r k s l : Int) (w : World) : Calls Try.prog 10 #[.agg #[.int .i64 h, .int .i64 u], .agg #[.int .i64 m, .int .i64 r, .int .i64 k], .int .i64 s, .int .i64 l] w fun e w' => e = .returned (.bool true) ∧ Below w.heap.size w w' := by
  have hP : ((w.alloc (.cells #[.int .i64 h, .int .i64 u] 23)).alloc (.cells #[.int .i64 m, .int .i64 r, .int .i64 k] 42)).cell? ⟨w.heap.size, 0, none⟩ = some (.int .i64 h) ∧ ((w.alloc (.cells #[.int .i64 h, .int .i64 u] 23)).alloc (.cells #[.int .i64 m, .int .i64 r, .int .i64 k] 42)).cell? ⟨w.heap.size, 1, none⟩ = some (.int .i64 u) ∧ ((w.alloc (.cells #[.int .i64 h, .int .i64 u] 23)).alloc (.cells #[.int .i64 m, .int .i64 r, .int .i64 k] 42)).cell? ⟨w.heap.size + 1, 0, none⟩ = some (.int .i64 m) ∧ ((w.alloc (.cells #[.int .i64 h, .int .i64 u] 23)).alloc (.cells #[.int .i64 m, .int .i64 r, .int .i64 k] 42)).cell? ⟨w.heap.size + 1, 1, none⟩ = some (.int .i64 r) ∧ ((w.alloc (.cells #[.int .i64 h, .int .i64 u] 23)).alloc (.cells #[.int .i64 m, .int .i64 r, .int .i64 k] 42)).cell? ⟨w.heap.size + 1, 2, none⟩ = some (.int .i64 k) ∧ Below w.heap.size w ((w.alloc (.cells #[.int .i64 h, .int .i64 u] 23)).alloc (.cells #[.int .i64 m, .int .i64 r, .int .i64 k] 42)) := by
    refine ⟨lay _ (by simp), lay _ (by simp), ?_, ?_, ?_, by go_grown⟩ <;> (rw [World.cell?_alloc_at _ _ _ _ (by simp)]; rfl)
  have kW : w.heap.size + 1 < ((w.alloc (.cells #[.int .i64 h, .int .i64 u] 23)).alloc (.cells #[.int .i64 m, .int .i64 r, .int .i64 k] 42)).heap.size := by simp
  go_enter Try.func10, Try.ntmps10
  go_upto_region 1 with fail
  generalize ((w.alloc (.cells #[.int .i64 h, .int .i64 u] 23)).alloc (.cells #[.int .i64 m, .int .i64 r, .int .i64 k] 42)) = W0 at hP kW ⊢
  obtain ⟨c0, c1, c2, c3, c4, hB0⟩ := hP
  go_cut [9, 10, 11] (fun s9 s10 s11 wx => ∃ bx : Nat, s9 = .pointer (some ⟨bx, 0, none⟩) ∧ s10 = .bool (answerF h u m r k s l).2.1 ∧ s11 = .bool (answerF h u m r k s l).2.2 ∧ w.heap.size + 1 < bx ∧ wx.cell? ⟨w.heap.size, 0, none⟩ = some (.int .i64 h) ∧ wx.cell? ⟨w.heap.size, 1, none⟩ = some (.int .i64 u) ∧ wx.cell? ⟨w.heap.size + 1, 0, none⟩ = some (.int .i64 m) ∧ wx.cell? ⟨w.heap.size + 1, 1, none⟩ = some (.int .i64 r) ∧ wx.cell? ⟨w.heap.size + 1, 2, none⟩ = some (.int .i64 k) ∧ wx.cell? ⟨bx, 0, none⟩ = some (.int .i64 (answerF h u m r k s l).1.1) ∧ wx.cell? ⟨bx, 1, none⟩ = some (.int .i64 (answerF h u m r k s l).1.2) ∧ Below w.heap.size w wx)
  case first =>
    go_region_held3 (fun w' => w'.cell? ⟨w.heap.size, 0, none⟩ = some (.int .i64 h) ∧ w'.cell? ⟨w.heap.size, 1, none⟩ = some (.int .i64 u) ∧ w'.cell? ⟨w.heap.size + 1, 0, none⟩ = some (.int .i64 m) ∧ w'.cell? ⟨w.heap.size + 1, 1, none⟩ = some (.int .i64 r) ∧ w'.cell? ⟨w.heap.size + 1, 2, none⟩ = some (.int .i64 k))
      (((try dsimp only); (try go_split_ands); refine ⟨?_, ?_, ?_, ?_, ?_⟩ <;> first | assumption | (rw [World.cell?_drew]; assumption) | exact keep hb ‹_› | exact lay _ ‹_› | (refine relay ‹_› ?_; simp; omega) | (refine unset ‹_› ?_; simp; omega) | (refine unset (unset ‹_› ?_) ?_ <;> (simp; omega))))
      (first
        | (go_at_call 14; refine (toLease_any _ _ _).mono ?_; rintro e w1 ⟨rfl, hb⟩; obtain ⟨hc, hf, hl, hz⟩ := bfam hb; (try simp at hz); have hq := hl W0.heap.size; (try simp at hq); have hB' : Below w.heap.size w w1 := Below.on' (by go_grown) hb)
        | (go_at_call 30; refine (toAsk_any _ _ _ _).mono ?_; rintro e w1 ⟨rfl, hb⟩; obtain ⟨hc, hf, hl, hz⟩ := bfam hb; (try simp at hz); have hq := hl W0.heap.size; (try simp at hq); have hB' : Below w.heap.size w w1 := Below.on' (by go_grown) hb)
        | (go_at_call 29; refine (AnswerAsk_spec _ _ _ _ _ _ _ _).mono ?_; rintro e w1 ⟨rfl, hb⟩; obtain ⟨hc, hf, hl, hz⟩ := bfam hb; (try simp at hz); have hq := hl W0.heap.size; (try simp at hq); have hB' : Below w.heap.size w w1 := Below.on' (by go_grown) hb))
    all_goals go_wp2_with fail
    all_goals go_meet
    all_goals go_split_ands
    all_goals (refine ⟨_, rfl, rfl, rfl, ?_, by assumption, by assumption, by assumption, by assumption, by assumption, ?_, ?_, ?_⟩)
    all_goals first | omega | go_grown | skip
    all_goals first | (simp; done) | (refine (two_set (a := .int .i64 0) (b := .int .i64 0) ?_ ?_).1 <;> (simp [*]; done)) | (refine (two_set (a := .int .i64 0) (b := .int .i64 0) ?_ ?_).2 <;> (simp [*]; done)) | skip
  case rest =>
    obtain ⟨bx, rfl, rfl, rfl, hbx, c0, c1, c2, c3, c4, c5, c6, hB⟩ := hcut
    clear kW hB0
    go_upto_region 2 with fail
    have kW : w.heap.size + 1 < wc.heap.size := Nat.lt_trans hbx (World.block_lt_of_cell? _ _ c5)
    have kX : bx < wc.heap.size := World.block_lt_of_cell? _ _ c5
    have hB0 := hB
    clear hB
    go_cut [12, 13, 14] (fun s9 s10 s11 wx => ∃ by_ : Nat, s9 = .pointer (some ⟨by_, 0, none⟩) ∧ s10 = .bool (answerF h u m r k s l).2.1 ∧ s11 = .bool (answerF h u m r k s l).2.2 ∧ w.heap.size + 1 < by_ ∧ wx.cell? ⟨bx, 0, none⟩ = some (.int .i64 (answerF h u m r k s l).1.1) ∧ wx.cell? ⟨bx, 1, none⟩ = some (.int .i64 (answerF h u m r k s l).1.2) ∧ wx.cell? ⟨by_, 0, none⟩ = some (.int .i64 (answerF h u m r k s l).1.1) ∧ wx.cell? ⟨by_, 1, none⟩ = some (.int .i64 (answerF h u m r k s l).1.2) ∧ Below w.heap.size w wx)
    case first =>
      go_region_held3 (fun w' => w'.cell? ⟨w.heap.size, 0, none⟩ = some (.int .i64 h) ∧ w'.cell? ⟨w.heap.size, 1, none⟩ = some (.int .i64 u) ∧ w'.cell? ⟨w.heap.size + 1, 0, none⟩ = some (.int .i64 m) ∧ w'.cell? ⟨w.heap.size + 1, 1, none⟩ = some (.int .i64 r) ∧ w'.cell? ⟨w.heap.size + 1, 2, none⟩ = some (.int .i64 k) ∧ w'.cell? ⟨bx, 0, none⟩ = some (.int .i64 (answerF h u m r k s l).1.1) ∧ w'.cell? ⟨bx, 1, none⟩ = some (.int .i64 (answerF h u m r k s l).1.2))
        (((try dsimp only); (try go_split_ands); refine ⟨?_, ?_, ?_, ?_, ?_, ?_, ?_⟩ <;> first | assumption | (rw [World.cell?_drew]; assumption) | exact keep hb ‹_› | exact lay _ ‹_› | (refine relay ‹_› ?_; simp; omega) | (refine unset ‹_› ?_; simp; omega) | (refine unset (unset ‹_› ?_) ?_ <;> (simp; omega))))
        (first
        | (go_at_call 14; refine (toLease_any _ _ _).mono ?_; rintro e w1 ⟨rfl, hb⟩; obtain ⟨hc, hf, hl, hz⟩ := bfam hb; (try simp at hz); have hq := hl wc.heap.size; (try simp at hq); have hB' : Below w.heap.size w w1 := Below.on' (by go_grown) hb)
        | (go_at_call 30; refine (toAsk_any _ _ _ _).mono ?_; rintro e w1 ⟨rfl, hb⟩; obtain ⟨hc, hf, hl, hz⟩ := bfam hb; (try simp at hz); have hq := hl wc.heap.size; (try simp at hq); have hB' : Below w.heap.size w w1 := Below.on' (by go_grown) hb)
        | (go_at_call 31; refine (AnswerAsk_impl _ _ _ _ _ _ _ _).mono ?_; rintro e w1 ⟨rfl, hb⟩; obtain ⟨hc, hf, hl, hz⟩ := bfam hb; (try simp at hz); have hq := hl wc.heap.size; (try simp at hq); have hB' : Below w.heap.size w w1 := Below.on' (by go_grown) hb))
      all_goals go_wp2_with fail
      all_goals go_meet
      all_goals go_split_ands
      all_goals (refine ⟨_, rfl, rfl, rfl, ?_, by assumption, by assumption, ?_, ?_, ?_⟩)
      all_goals first | omega | go_grown | skip
      all_goals first | (simp; done) | (refine (two_set (a := .int .i64 0) (b := .int .i64 0) ?_ ?_).1 <;> (simp [*]; done)) | (refine (two_set (a := .int .i64 0) (b := .int .i64 0) ?_ ?_).2 <;> (simp [*]; done)) | skip
    case rest =>
      obtain ⟨by_, rfl, rfl, rfl, hby, d5, d6, d7, d8, hB⟩ := hcut
      go_wp2_with fail
      refine (eqLease_same _ _ _).mono ?_
      rintro e w5 ⟨rfl, hb⟩
      have hB5 : Below w.heap.size w w5 := Below.on' (by go_grown) hb
      go_wp2_with fail
      go_ret
      exact ⟨rfl, hB5⟩
theorem cells_0 : Try.prog.cellsOf 23 = 2 := by kernel_rfl
theorem cells_1 : Try.prog.cellsOf 42 = 3 := by kernel_rfl
set_option maxRecDepth 100000 in
theorem lifted (os : Os) (started : os.Started) (H : Type) (enc : TypeId × Value → H) :
    ReturnsInHanded {} Try.checked os 10 .any (Rows.fnExactAnswerAskSpec.pre6 enc Try.prog Try.f10 Rows.fnExactAnswerAskRow.domain false) (Rows.fnExactAnswerAskSpec.post enc Try.prog Try.f10 false true false false) := by
  refine law_lifted (C := Try.checked) own started (by kernel_rfl) Try.func10
    (ChangeSpec.witness6 (enc := enc) (C := Try.checked) false ⟨#[], #[.agg #[.int .i64 0, .int .i64 0], .agg #[.int .i64 0, .int .i64 0, .int .i64 0], .int .i64 0, .int .i64 0], []⟩ 8 (by kernel_rfl) (by kernel_rfl) (by kernel_rfl) (by kernel_rfl))
    laidOut 4 (by kernel_rfl) Try.underlying4 (by kernel_rfl) rfl ?_ ?_
  · intro ds hds
    have hn : Try.f10.params.size = 4 := by kernel_rfl
    rw [hn] at hds
    match ds, hds with
    | [d0, d1, d2, d3], _ => rfl
  intro W base args ds p hval0 hA0 hlt hnf hsh
  have hval : ∀ (j : Nat) t v, Try.f10.params[j]? = some t → args[j]? = some v → Value.okWide Try.prog W .any base t v := hval0
  have hA : DataW.TrodAll enc Try.prog W 0 (fun _ => true) true Try.f10.params.toList args.toList ds p := hA0
  clear hval0 hA0
  rw [Try.params10] at hA hval
  obtain ⟨v0, vs0, d0, ds0, p0, q0, hargs, rfl, rfl, h0, r0⟩ := trodAll_cons hA
  obtain ⟨v1, vs1, d1, ds1, p1, q1, rfl, rfl, rfl, h1, r1⟩ := trodAll_cons r0
  obtain ⟨v2, vs2, d2, ds2, p2, q2, rfl, rfl, rfl, h2, r2⟩ := trodAll_cons r1
  obtain ⟨v3, vs3, d3, ds3, p3, q3, rfl, rfl, rfl, h3, r3⟩ := trodAll_cons r2
  obtain ⟨rfl, rfl, rfl⟩ := trodAll_nil r3
  obtain rfl : args = #[v0, v1, v2, v3] := by cases args; simp_all
  obtain ⟨c00, c01, y00, y01, m0, rfl, rfl, rfl, hy00, hy01⟩ := open_agg2 Try.underlying23 (by kernel_rfl) cells_0 (hval 0 23 v0 rfl rfl) h0
  obtain ⟨h, e00, rfl, wh⟩ := DataW.trod_int Try.underlying3 hy00
  obtain ⟨u, e01, rfl, wu⟩ := DataW.trod_int Try.underlying3 hy01
  simp at e00 e01
  subst e00 e01
  obtain ⟨c10, c11, c12, y10, y11, y12, m1, rfl, rfl, rfl, hy10, hy11, hy12⟩ := open_agg3 Try.underlying42 (by kernel_rfl) cells_1 (hval 1 42 v1 rfl rfl) h1
  obtain ⟨m, e10, rfl, wm⟩ := DataW.trod_int Try.underlying3 hy10
  obtain ⟨r, e11, rfl, wr⟩ := DataW.trod_int Try.underlying3 hy11
  obtain ⟨k, e12, rfl, wk⟩ := DataW.trod_int Try.underlying3 hy12
  simp at e10 e11 e12
  subst e10 e11 e12
  obtain ⟨s, rfl, rfl, rfl, ws⟩ := open_int Try.underlying3 (hval 2 3 v2 rfl rfl) h2
  obtain ⟨l, rfl, rfl, rfl, wl⟩ := open_int Try.underlying3 (hval 3 3 v3 rfl rfl) h3
  exact walk h u m r k s l W

theorem over : Rows.fnExactAnswerAskRow.holds Try.pinned (OpenSpec.ofChange Rows.fnExactAnswerAskSpec) :=
  OpenClaim.holds_of_wide 10 Try.f10 rfl rfl rfl rfl rfl rfl rfl ⟨rfl, rfl, rfl, rfl, rfl⟩ rfl rfl rfl rfl rfl (by kernel_rfl) Try.func10 (by kernel_rfl)
    (of_decide_eq_true (by kernel_rfl)) (by unfold Func.isWrapper; first | (rw [if_pos (by decide +kernel)]; kernel_rfl) | (rw [if_neg (by decide +kernel)]; exact ⟨rfl, rfl⟩))
    (fun os started H enc _ => lifted os started H enc)

theorem proved : Rows.FnExactAnswerAskSaid :=
  over
#print axioms proved
end Go.Proofs.Ytdponfmhpedccaa.lawAnswerAsk

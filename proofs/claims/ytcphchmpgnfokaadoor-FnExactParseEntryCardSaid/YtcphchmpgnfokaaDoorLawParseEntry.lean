/- FnExactParseEntry: the program's ParseEntry returns what the reference's returns, for all arguments. No conditions beyond the card's own: the listed variables are those that the program's text lays. -/
import Derived.Test.YtcphchmpgnfokaaDoorPe
import Derived.Test.YtcphchmpgnfokaaDoorSaid
import Derived.Test.YtcphchmpgnfokaaDoorArg
import Derived.Test.YtcphchmpgnfokaaDoorTie
import Derived.Test.YtcphchmpgnfokaaDoorCards
import Derived.SevenTiedAt
import Derived.Lay
import Derived.ChangeMaps5
namespace Go.Proofs.YtcphchmpgnfokaaDoor.lawParseEntry
open Go.ChangeShapes Go.WideShapes Go.ChangeAt Go.RowKit Go.Joins Go.Proofs.YtcphchmpgnfokaaDoor

set_option maxHeartbeats 1000000 in
theorem walk (s : ByteArray) (_hs : s.size ≤ maxLen) (w : World) (hL : laidMetH Tryd.prog Rows.fnExactParseEntryRow.laid w) (hSh : w.ShapedOpen Tryd.prog) : Calls Tryd.prog 9 #[.string s] w fun e w' => e = .returned (.bool true) ∧ Below w.heap.size w w' := by
  have hS : Said w := by
    have h : laidMet Tryd.prog Rows.fnExactParseEntryRow.laid w := by rw [MakeChecks.laidMetH_plain _ _ _ (by kernel_rfl)] at hL; exact hL
    exact said_at h.tail.tail h.tail.tail.tail.tail
  have hX : MaxL w := maxL_of hSh
  clear hL hSh
  by_cases hbig : 1048576 < s.size
  · have hbig' : (1048576 : Int) < s.size := by omega
    go_enter Tryd.func9, Tryd.ntmps9
    go_wp2
    go_ret
    exact ⟨rfl, by go_grown⟩
  have hlim : s.size ≤ 1048576 := by omega
  have hlim' : (s.size : Int) ≤ 1048576 := by omega
  clear hbig
  go_enter Tryd.func9, Tryd.ntmps9
  go_wp2_with fail
  refine (ParseEntry_spec s hlim _).mono ?_
  rintro e w1 ⟨⟨aar, aan, aam, aat⟩, b, rfl, HR, hb⟩
  dsimp only
  have hB1 : Below w.heap.size w (w1.alloc (.cells #[.int .i64 aar, .int .i64 aan, .int .i64 aam, .string aat] 33)) := hb.alloc hb.size _
  have hE := R4.new w1 (.int .i64 aar) (.int .i64 aan) (.int .i64 aam) (.string aat) 33 _ rfl
  clear hb
  go_wp2_with fail
  refine (ParseEntry_impl s hlim _ (hS.below hB1) (hX.below hB1)).mono ?_
  rintro e w2 ⟨⟨ccr, ccn, ccm, cct⟩, b', rfl, HR', hb'⟩
  dsimp only
  have hB2 : Below w.heap.size w (w2.alloc (.cells #[.int .i64 ccr, .int .i64 ccn, .int .i64 ccm, .string cct] 33)) := (Below.on' hB1 hb').alloc (Below.on' hB1 hb').size _
  have hE2 := (hE.below hb').alloc (.cells #[.int .i64 ccr, .int .i64 ccn, .int .i64 ccm, .string cct] 33)
  have hF := R4.new w2 (.int .i64 ccr) (.int .i64 ccn) (.int .i64 ccm) (.string cct) 33 _ rfl
  have hq : (⟨ccr, ccn, ccm, cct⟩ : Ent) = (⟨aar, aan, aam, aat⟩ : Ent) ∧ b' = b := by
    obtain ⟨a1, a2, a3⟩ := HR.out
    obtain ⟨c1, c2, c3⟩ := HR'.out
    cases b with
    | true =>
      obtain ⟨g1, g2⟩ := a1 rfl
      obtain ⟨g3, g4⟩ := c3 _ g1 g2
      exact ⟨g4, g3⟩
    | false =>
      cases b' with
      | true =>
        obtain ⟨g1, g2⟩ := c1 rfl
        obtain ⟨g3, _⟩ := a3 _ g1 g2
        cases g3
      | false => exact ⟨(c2 rfl).trans (a2 rfl).symm, rfl⟩
  obtain ⟨hq1, rfl⟩ := hq
  injection hq1 with er en em et
  subst er en em et
  clear HR HR' hS hX hb' hE
  obtain ⟨p0, p1, p2, p3, _, _, _, _⟩ := id hE2
  obtain ⟨q0, q1, q2, q3, _, _, _, _⟩ := id hF
  go_wp2_with fail
  refine (eqEntry_same _ _ _ _ _).mono ?_
  rintro e w3 ⟨rfl, hb⟩
  have hB3 : Below w.heap.size w w3 := Below.on' hB2 hb
  clear hE2 hF hb p0 q0 p1 q1 p2 q2 p3 q3
  go_wp2
  go_ret
  exact ⟨rfl, hB3⟩
theorem lay_met (os : Os) (args : Array Value) : laidMetH Tryd.prog Rows.fnExactParseEntryRow.laid ((World.laidAll Tryd.prog os Rows.fnExactParseEntryRow.laid).forCall (fun _ _ => 0) ⟨#[], args, []⟩).memory := by
  rw [MakeChecks.laidMetH_plain _ _ _ (by kernel_rfl)]
  exact laidMet_laidAll _ (by kernel_rfl) (by kernel_rfl)
set_option maxRecDepth 100000 in
theorem lifted (os : Os) (started : os.Started) (H : Type) (enc : TypeId × Value → H) :
    ReturnsInHanded {} Tryd.checked os 9 .any (fun w args => (Rows.fnExactParseEntrySpec.pre enc Tryd.prog Tryd.f9 [] false w args ∧ laidMetH Tryd.prog Rows.fnExactParseEntryRow.laid w) ∧ sizedMet enc Tryd.prog Tryd.f9 (OpenSpec.ofChange Rows.fnExactParseEntrySpec) false w args) (Rows.fnExactParseEntrySpec.post enc Tryd.prog Tryd.f9 false true false false) := by
  refine law_liftedD (C := Tryd.checked) own started (by kernel_rfl) Tryd.func9
    (ChangeSpec.witness_shaped (enc := enc) (C := Tryd.checked) (os := os) (X := fun w _ => laidMetH Tryd.prog Rows.fnExactParseEntryRow.laid w) false (World.laidAll Tryd.prog os Rows.fnExactParseEntryRow.laid) #[.string ⟨#[]⟩] 8 (World.laidAll_os _ _ _) (World.shaped_of_ZipB (by kernel_rfl) (by kernel_rfl)) (by kernel_rfl) (by kernel_rfl) (by kernel_rfl) (lay_met os _))
    laidOut 4 (by kernel_rfl) Tryd.underlying4 (by kernel_rfl) rfl ?_ ?_
  · intro ds hds
    have hn : Tryd.f9.params.size = 1 := by kernel_rfl
    rw [hn] at hds
    match ds, hds with
    | [d0], _ => rfl
  intro W base args ds p hval0 hA0 hlt hnf hL hSh
  have hval : ∀ (j : Nat) t v, Tryd.f9.params[j]? = some t → args[j]? = some v → Value.okWide Tryd.prog W .any base t v := hval0
  have hA : DataW.TrodAll enc Tryd.prog W 0 (fun _ => true) true Tryd.f9.params.toList args.toList ds p := hA0
  clear hval0 hA0
  rw [Tryd.params9] at hA hval
  obtain ⟨v0, vs0, d0, ds0, p0, q0, hargs, rfl, rfl, h0, r0⟩ := trodAll_cons hA
  obtain ⟨rfl, rfl, rfl⟩ := trodAll_nil r0
  obtain rfl : args = #[v0] := by cases args; simp_all
  obtain ⟨s, rfl, rfl, rfl, hs⟩ := Go.ChangeMaps.open_string Tryd.underlying9 (hval 0 9 v0 rfl rfl) h0
  exact walk s hs W hL hSh

theorem over : Rows.fnExactParseEntryRow.holds Tryd.pinned (OpenSpec.ofChange Rows.fnExactParseEntrySpec) :=
  OpenClaim.holds_of_wide 9 Tryd.f9 rfl rfl rfl rfl rfl rfl rfl ⟨rfl, rfl, rfl, rfl, rfl⟩ rfl rfl rfl rfl rfl (by kernel_rfl) Tryd.func9 (by kernel_rfl)
    (of_decide_eq_true (by kernel_rfl)) (by unfold Func.isWrapper; first | (rw [if_pos (by decide +kernel)]; kernel_rfl) | (rw [if_neg (by decide +kernel)]; exact ⟨rfl, rfl⟩))
    (fun os started H enc _ => lifted os started H enc)

theorem proved : Rows.FnExactParseEntryCardSaid :=
  Claim7.holds_tied_plain_at .later [] [.data, .data, .data, .data, .sentinel, .sentinel, .pinned] true Rows.fnExactParseEntryCard.stood.harness true
    over (fun _ h => by cases h) (by kernel_rfl) (fun _ h => by cases h) fnExactParseEntry_row_tie rfl ⟨rfl, rfl⟩ (by kernel_rfl) rfl
    (fun f fn hf hfn => by
      obtain rfl : f = 9 := Option.some.inj ((show Tryd.prog.funcNamed "loop.example/g01020/laws.FnExactParseEntry" = some 9 by kernel_rfl).symm.trans hf) |>.symm
      obtain rfl : fn = Tryd.f9 := (Option.some.inj (Tryd.func9.symm.trans hfn)).symm
      exact ⟨by kernel_rfl, fun j t ht => by
        rw [Tryd.params9] at ht
        have hm : t ∈ [9] := by simpa using Array.mem_of_getElem? ht
        have hall : ([9].all fun u => !Tryd.prog.wantsStandIn u) = true := by kernel_rfl
        exact (show Tryd.prog.wantsStandIn t = false by simpa using List.all_eq_true.1 hall t hm)⟩)
    (by kernel_rfl)
#print axioms proved
end Go.Proofs.YtcphchmpgnfokaaDoor.lawParseEntry

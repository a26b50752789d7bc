/- FnExactEntryText: the program's EntryText returns what the reference's returns, for all arguments. No conditions beyond the card's own: the listed tables are those that the program's text lays. -/
import Derived.Test.YtcphchmpgnfokaaDoorLine
import Derived.Test.YtcphchmpgnfokaaDoorEntArg
import Derived.Test.YtcphchmpgnfokaaDoorTie
import Derived.Test.YtcphchmpgnfokaaDoorCards
import Derived.SevenTiedAt
namespace Go.Proofs.YtcphchmpgnfokaaDoor.lawEntryText
open Go.ChangeShapes Go.WideShapes Go.ChangeAt Go.RowKit Go.Joins Go.Proofs.YtcphchmpgnfokaaDoor

set_option maxHeartbeats 1000000 in
theorem walk (x : Ent) (hx : x.t.size ≤ maxLen) (w : World) (hL : laidMetH Tryd.prog Rows.fnExactEntryTextRow.laid w) : Calls Tryd.prog 4 #[.agg #[.int .i64 x.r, .int .i64 x.n, .int .i64 x.m, .string x.t]] w fun e w' => e = .returned (.bool true) ∧ Below w.heap.size w w' := by
  have hT : TabW w := by
    have h : laidMet Tryd.prog Rows.fnExactEntryTextRow.laid w := by rw [MakeChecks.laidMetH_plain _ _ _ (by kernel_rfl)] at hL; exact hL
    exact tab_at h.tail.tail
  clear hL
  have hcs := fun W => EntryText_spec x W hx
  have hci := fun W hW => EntryText_impl x W hx hW
  generalize lineTT x = L at hcs hci
  generalize entB x.r x.n x.m x.t = B at hcs hci
  obtain ⟨r, n, m, t⟩ := x
  dsimp only at hx hcs hci ⊢
  have hsp := szEnt_pos t 1048576
  have hb0 : ∀ (v : World), Below w.heap.size w v → v.cell? ⟨w.heap.size, 0, none⟩ = v.cell? ⟨w.heap.size, 0, none⟩ := fun _ _ => rfl
  clear hb0
  go_enter Tryd.func4, Tryd.ntmps4
  go_wp2_with fail
  refine (szEntry_any _ _ _ _ _ hx (by omega) (by omega) _).mono ?_
  rintro e w1 ⟨rfl, hb⟩
  have hB1 : Below w.heap.size w w1 := Below.on' (by go_grown) hb
  have b0 : w1.cell? ⟨w.heap.size, 0, none⟩ = some (.int .i64 r) := keep hb (by simp)
  have b1 : w1.cell? ⟨w.heap.size, 1, none⟩ = some (.int .i64 n) := keep hb (by simp)
  have b2 : w1.cell? ⟨w.heap.size, 2, none⟩ = some (.int .i64 m) := keep hb (by simp)
  have b3 : w1.cell? ⟨w.heap.size, 3, none⟩ = some (.string t) := keep hb (by simp)
  clear hb
  generalize szEnt t 1048576 = q at hsp
  by_cases hq : q < 0
  · go_wp2
    go_ret
    exact ⟨rfl, hB1⟩
  clear hsp
  go_wp2_with fail
  refine (toEntry_any _ _ _ _ _).mono ?_
  rintro e w2 ⟨rfl, hb⟩
  have hB2 := Below.on' hB1 hb
  replace b0 := keep hb b0
  replace b1 := keep hb b1
  replace b2 := keep hb b2
  replace b3 := keep hb b3
  clear hb
  go_wp2_with fail
  refine (hcs _).mono ?_
  rintro e w3 ⟨rfl, hb⟩
  have hB3 := Below.on' hB2 hb
  replace b0 := keep hb b0
  replace b1 := keep hb b1
  replace b2 := keep hb b2
  replace b3 := keep hb b3
  clear hb
  go_wp2_with fail
  refine (toEntry_any _ _ _ _ _).mono ?_
  rintro e w4 ⟨rfl, hb⟩
  have hB4 := Below.on' hB3 hb
  clear hb b0 b1 b2 b3
  go_wp2_with fail
  refine (hci _ (hT.below hB4)).mono ?_
  rintro e w5 ⟨rfl, hb⟩
  have hB5 := Below.on' hB4 hb
  clear hb
  go_wp2
  go_ret
  exact ⟨rfl, hB5⟩
theorem door_met (os : Os) (args : Array Value) : laidMetH Tryd.prog Rows.fnExactEntryTextRow.laid ((World.doorLaid Tryd.prog 400 os).forCall (fun _ _ => 0) ⟨#[], args, []⟩).memory :=
  laidMetH_of_parts3 (fuel := 8) (laidMet_of_run' 8 (by kernel_rfl) (by kernel_rfl)) (by kernel_rfl) (by kernel_rfl)
set_option maxRecDepth 100000 in
theorem lifted (os : Os) (started : os.Started) (H : Type) (enc : TypeId × Value → H) :
    ReturnsInHanded {} Tryd.checked os 4 .any (fun w args => (Rows.fnExactEntryTextSpec.pre enc Tryd.prog Tryd.f4 [] false w args ∧ laidMetH Tryd.prog Rows.fnExactEntryTextRow.laid w) ∧ sizedMet enc Tryd.prog Tryd.f4 (OpenSpec.ofChange Rows.fnExactEntryTextSpec) false w args) (Rows.fnExactEntryTextSpec.post enc Tryd.prog Tryd.f4 false true false false) := by
  refine law_liftedD (C := Tryd.checked) own started (by kernel_rfl) Tryd.func4
    (ChangeSpec.witness_shaped (enc := enc) (C := Tryd.checked) (os := os) (X := fun w _ => laidMetH Tryd.prog Rows.fnExactEntryTextRow.laid w) false (World.doorLaid Tryd.prog 400 os) #[.agg #[.int .i64 0, .int .i64 0, .int .i64 0, .string ⟨#[]⟩]] 8 rfl (World.shaped_of_RefB (by kernel_rfl) (by kernel_rfl)) (by kernel_rfl) (by kernel_rfl) (by kernel_rfl) (door_met os _))
    laidOut 4 (by kernel_rfl) Tryd.underlying4 (by kernel_rfl) rfl ?_ ?_
  · intro ds hds
    have hn : Tryd.f4.params.size = 1 := by kernel_rfl
    rw [hn] at hds
    match ds, hds with
    | [d0], _ => rfl
  intro W base args ds p hval0 hA0 hlt hnf hL _hSh
  have hval : ∀ (j : Nat) t v, Tryd.f4.params[j]? = some t → args[j]? = some v → Value.okWide Tryd.prog W .any base t v := hval0
  have hA : DataW.TrodAll enc Tryd.prog W 0 (fun _ => true) true Tryd.f4.params.toList args.toList ds p := hA0
  clear hval0 hA0
  rw [Tryd.params4] at hA hval
  obtain ⟨v0, vs0, d0, ds0, p0, q0, hargs, rfl, rfl, h0, r0⟩ := trodAll_cons hA
  obtain ⟨rfl, rfl, rfl⟩ := trodAll_nil r0
  obtain rfl : args = #[v0] := by cases args; simp_all
  obtain ⟨x, rfl, hx⟩ := Ent.opened (hval 0 30 v0 rfl rfl) h0
  exact walk x hx W hL

theorem over : Rows.fnExactEntryTextRow.holds Tryd.pinned (OpenSpec.ofChange Rows.fnExactEntryTextSpec) :=
  OpenClaim.holds_of_wide 4 Tryd.f4 rfl rfl rfl rfl rfl rfl rfl ⟨rfl, rfl, rfl, rfl, rfl⟩ rfl rfl rfl rfl rfl (by kernel_rfl) Tryd.func4 (by kernel_rfl)
    (of_decide_eq_true (by kernel_rfl)) (by unfold Func.isWrapper; first | (rw [if_pos (by decide +kernel)]; kernel_rfl) | (rw [if_neg (by decide +kernel)]; exact ⟨rfl, rfl⟩))
    (fun os started H enc _ => lifted os started H enc)

theorem proved : Rows.FnExactEntryTextCardSaid :=
  Claim7.holds_tied_plain_at .later [] [.data, .data, .data] true Rows.fnExactEntryTextCard.stood.harness true
    over (fun _ h => by cases h) (by kernel_rfl) (fun _ h => by cases h) fnExactEntryText_row_tie rfl ⟨rfl, rfl⟩ (by kernel_rfl) rfl
    (fun f fn hf hfn => by
      obtain rfl : f = 4 := Option.some.inj ((show Tryd.prog.funcNamed "loop.example/g01020/laws.FnExactEntryText" = some 4 by kernel_rfl).symm.trans hf) |>.symm
      obtain rfl : fn = Tryd.f4 := (Option.some.inj (Tryd.func4.symm.trans hfn)).symm
      exact ⟨by kernel_rfl, fun j t ht => by
        rw [Tryd.params4] at ht
        have hm : t ∈ [30] := by simpa using Array.mem_of_getElem? ht
        have hall : ([30].all fun u => !Tryd.prog.wantsStandIn u) = true := by kernel_rfl
        exact (show Tryd.prog.wantsStandIn t = false by simpa using List.all_eq_true.1 hall t hm)⟩)
    (by kernel_rfl)
#print axioms proved
end Go.Proofs.YtcphchmpgnfokaaDoor.lawEntryText

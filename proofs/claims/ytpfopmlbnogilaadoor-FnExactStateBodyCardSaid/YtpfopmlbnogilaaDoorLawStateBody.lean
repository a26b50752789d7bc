/- FnExactStateBody: the program's StateBody returns what the reference's returns, for all arguments. No conditions beyond the card's own: the listed tables are those that the program's text lays. -/
import Derived.Test.YtpfopmlbnogilaaDoorSt
import Derived.Test.YtpfopmlbnogilaaDoorRowD
import Derived.Test.YtpfopmlbnogilaaDoorShItoa
import Derived.Test.YtpfopmlbnogilaaDoorTie
import Derived.Test.YtpfopmlbnogilaaDoorCards
import Derived.SevenTiedAt
namespace Go.Proofs.YtpfopmlbnogilaaDoor.lawStateBody
open Go.ChangeShapes Go.WideShapes Go.ChangeAt Go.RowKit Go.Joins Go.Proofs.YtpfopmlbnogilaaDoor

theorem itoa_dig (k : Nat) (h : k ≤ 5) : (⟨(Lib.decDigits k).toArray⟩ : ByteArray) = digT k := by
  rcases (by omega : k = 0 ∨ k = 1 ∨ k = 2 ∨ k = 3 ∨ k = 4 ∨ k = 5) with rfl | rfl | rfl | rfl | rfl | rfl <;> decide +kernel
theorem stateBody_a (n : Int) (h : 0 ≤ n ∧ n ≤ 5) (w : World) : Calls Tryd.prog 30 #[.int .i64 n] w (RV w (.string (stT n))) := by
  obtain ⟨k, rfl⟩ : ∃ k : Nat, n = k := ⟨n.toNat, by omega⟩
  have hc := fun W => Tryd.strconv_Itoa_small k (by omega) W
  rw [itoa_dig k (by omega)] at hc
  go_enter Tryd.func30, Tryd.ntmps30
  go_wp2_with fail
  refine (hc _).mono ?_
  rintro e w1 ⟨rfl, rfl⟩
  go_wp2
  go_ret
  exact RV.mk rfl (by go_grown)
theorem StateBody_impl_no (n : Int) (g : stOk n = false) (w : World) : Calls Tryd.prog 11 #[.int .i64 n] w (RV w (.tuple #[.string ⟨#[]⟩, .bool false])) := by
  have hc := fun W => g ▸ isState_a n W
  go_enter Tryd.func11, Tryd.ntmps11
  go_wp2_with fail
  refine (hc _).mono ?_
  rintro e w1 ⟨rfl, hb⟩
  have hB : Below w.heap.size w w1 := Below.on' (by go_grown) hb
  go_wp2
  go_ret2
  exact RV.mk rfl hB
theorem StateBody_impl_yes (n : Int) (g : stOk n = true) (w : World) : Calls Tryd.prog 11 #[.int .i64 n] w (RV w (.tuple #[.string (stT n), .bool true])) := by
  have hc := fun W => g ▸ isState_a n W
  have h := stOk_in g
  go_enter Tryd.func11, Tryd.ntmps11
  go_wp2_with fail
  refine (hc _).mono ?_
  rintro e w1 ⟨rfl, hb⟩
  have hB : Below w.heap.size w w1 := Below.on' (by go_grown) hb
  clear hb
  go_wp2_with fail
  refine (stateBody_a n h _).mono ?_
  rintro e w2 ⟨rfl, hb⟩
  have hB2 := Below.on' hB hb
  go_wp2
  go_ret2
  exact RV.mk rfl hB2
theorem walk (n : Int) (w : World) : Calls Tryd.prog 4 #[.int .i64 n] w fun e w' => e = .returned (.bool true) ∧ Below w.heap.size w w' := by
  cases g : stOk n with
  | false =>
    go_enter Tryd.func4, Tryd.ntmps4
    go_wp2_with fail
    refine (StateBody_spec_no n g _).mono ?_
    rintro e w1 ⟨rfl, hb⟩
    have hB : Below w.heap.size w w1 := Below.on' (by go_grown) hb
    clear hb
    go_wp2_with fail
    refine (StateBody_impl_no n g _).mono ?_
    rintro e w2 ⟨rfl, hb⟩
    have hB2 := Below.on' hB hb
    go_wp2
    go_ret
    exact ⟨rfl, hB2⟩
  | true =>
    go_enter Tryd.func4, Tryd.ntmps4
    go_wp2_with fail
    refine (StateBody_spec_yes n g _).mono ?_
    rintro e w1 ⟨rfl, hb⟩
    have hB : Below w.heap.size w w1 := Below.on' (by go_grown) hb
    clear hb
    go_wp2_with fail
    refine (StateBody_impl_yes n g _).mono ?_
    rintro e w2 ⟨rfl, hb⟩
    have hB2 := Below.on' hB hb
    go_wp2
    go_ret
    exact ⟨rfl, hB2⟩
theorem door_met (os : Os) (args : Array Value) : laidMetH Tryd.prog Rows.fnExactStateBodyRow.laid ((World.doorLaid Tryd.prog 400 os).forCall (fun _ _ => 0) ⟨#[], args, []⟩).memory :=
  laidMetH_of_parts3 (fuel := 8) (laidMet_of_run' 8 (by kernel_rfl) (by kernel_rfl)) (by kernel_rfl) (by kernel_rfl)
set_option maxRecDepth 100000 in
theorem lifted (os : Os) (started : os.Started) (H : Type) (enc : TypeId × Value → H) :
    ReturnsInHanded {} Tryd.checked os 4 .any (fun w args => (Rows.fnExactStateBodySpec.pre enc Tryd.prog Tryd.f4 [] false w args ∧ laidMetH Tryd.prog Rows.fnExactStateBodyRow.laid w) ∧ sizedMet enc Tryd.prog Tryd.f4 (OpenSpec.ofChange Rows.fnExactStateBodySpec) false w args) (Rows.fnExactStateBodySpec.post enc Tryd.prog Tryd.f4 false true false false) := by
  refine law_liftedD (C := Tryd.checked) own started (by kernel_rfl) Tryd.func4
    (ChangeSpec.witness_shaped (enc := enc) (C := Tryd.checked) (os := os) (X := fun w _ => laidMetH Tryd.prog Rows.fnExactStateBodyRow.laid w) false (World.doorLaid Tryd.prog 400 os) #[.int .i64 0] 8 rfl (World.shaped_of_RefB (by kernel_rfl) (by kernel_rfl)) (by kernel_rfl) (by kernel_rfl) (by kernel_rfl) (door_met os _))
    laidOut 4 (by kernel_rfl) Tryd.underlying4 (by kernel_rfl) rfl ?_ ?_
  · intro ds hds
    have hn : Tryd.f4.params.size = 1 := by kernel_rfl
    rw [hn] at hds
    match ds, hds with
    | [d0], _ => rfl
  intro W base args ds p hval0 hA0 hlt hnf hL
  have hval : ∀ (j : Nat) t v, Tryd.f4.params[j]? = some t → args[j]? = some v → Value.okWide Tryd.prog W .any base t v := hval0
  have hA : DataW.TrodAll enc Tryd.prog W 0 (fun _ => true) true Tryd.f4.params.toList args.toList ds p := hA0
  clear hval0 hA0
  rw [Tryd.params4] at hA hval
  obtain ⟨v0, vs0, d0, ds0, p0, q0, hargs, rfl, rfl, h0, r0⟩ := trodAll_cons hA
  obtain ⟨rfl, rfl, rfl⟩ := trodAll_nil r0
  obtain rfl : args = #[v0] := by cases args; simp_all
  obtain ⟨n, rfl, rfl, rfl, wn⟩ := open_int Tryd.underlying3 (hval 0 3 v0 rfl rfl) h0
  exact walk n W
theorem over : Rows.fnExactStateBodyRow.holds Tryd.pinned (OpenSpec.ofChange Rows.fnExactStateBodySpec) :=
  OpenClaim.holds_of_wide 4 Tryd.f4 rfl rfl rfl rfl rfl rfl rfl ⟨rfl, rfl, rfl, rfl, rfl⟩ rfl rfl rfl rfl rfl (by kernel_rfl) Tryd.func4 (by kernel_rfl)
    (of_decide_eq_true (by kernel_rfl)) (by unfold Func.isWrapper; first | (rw [if_pos (by decide +kernel)]; kernel_rfl) | (rw [if_neg (by decide +kernel)]; exact ⟨rfl, rfl⟩))
    (fun os started H enc _ => lifted os started H enc)
theorem proved : Rows.FnExactStateBodyCardSaid :=
  Claim7.holds_tied_plain_at .later [] [.data, .data, .data] true Rows.fnExactStateBodyCard.stood.harness true
    over (fun _ h => by cases h) (by kernel_rfl) (fun _ h => by cases h) fnExactStateBody_row_tie rfl ⟨rfl, rfl⟩ (by kernel_rfl) rfl
    (fun f fn hf hfn => by
      obtain rfl : f = 4 := Option.some.inj ((show Tryd.prog.funcNamed "loop.example/g01020/laws.FnExactStateBody" = some 4 by kernel_rfl).symm.trans hf) |>.symm
      obtain rfl : fn = Tryd.f4 := (Option.some.inj (Tryd.func4.symm.trans hfn)).symm
      exact ⟨by kernel_rfl, fun j t ht => by
        rw [Tryd.params4] at ht
        have hm : t ∈ [3] := by simpa using Array.mem_of_getElem? ht
        have hall : ([3].all fun u => !Tryd.prog.wantsStandIn u) = true := by kernel_rfl
        exact (show Tryd.prog.wantsStandIn t = false by simpa using List.all_eq_true.1 hall t hm)⟩)
    (by kernel_rfl)
#print axioms proved
end Go.Proofs.YtpfopmlbnogilaaDoor.lawStateBody

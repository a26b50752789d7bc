/- FnExactParseStateBody: the program's ParseStateBody returns what the reference's returns, for all arguments. No conditions beyond the card's own: the listed variables are those that the program's text lays. -/
import Derived.Test.YtpfopmlbnogilaaDoorPst
import Derived.Test.YtpfopmlbnogilaaDoorSaid
import Derived.Test.YtpfopmlbnogilaaDoorTie
import Derived.Test.YtpfopmlbnogilaaDoorCards
import Derived.SevenTiedAt
import Derived.ChangeMaps5
namespace Go.Proofs.YtpfopmlbnogilaaDoor.lawParseStateBody
open Go.ChangeShapes Go.WideShapes Go.ChangeAt Go.RowKit Go.Joins Go.Proofs.YtpfopmlbnogilaaDoor

def pre : ByteArray := ⟨#[115, 116, 97, 116, 101, 32]⟩
theorem stT_data (n : Int) : (stT n).data.toList = pre.data.toList ++ (digT n).data.toList := by unfold stT pre; simp [ByteArray.data_append]
theorem dig_ok {n : Int} (h : 0 ≤ n ∧ n ≤ 5) : Lib.atoiAll (digT n).data.toList = .ok n ∧ (digT n).data.toList = Lib.itoa n := by
  rcases six h with rfl | rfl | rfl | rfl | rfl | rfl <;> exact ⟨by decide +kernel, by decide +kernel⟩
theorem hasPre {l p : List UInt8} (h : Lib.hasPrefix l p = true) : l = p ++ Lib.trimPrefix l p := by
  obtain ⟨r, rfl⟩ := List.isPrefixOf_iff_prefix.1 h
  rw [Lib.trimPrefix, if_pos h, List.drop_left]
theorem pre_has (p r : List UInt8) : Lib.hasPrefix (p ++ r) p = true := List.isPrefixOf_iff_prefix.2 ⟨r, rfl⟩
theorem pre_trim (p r : List UInt8) : Lib.trimPrefix (p ++ r) p = r := by rw [Lib.trimPrefix, if_pos (pre_has p r), List.drop_left]
/-- s spells n: so its rest behind the word is n's digit. -/
theorem of_spell {s : ByteArray} {n : Int} (h : s.toList = (stT n).toList) : Lib.hasPrefix s.data.toList pre.data.toList = true ∧ Lib.trimPrefix s.data.toList pre.data.toList = (digT n).data.toList := by
  rw [Go.ByteArray.toList_eq, Go.ByteArray.toList_eq, stT_data] at h
  rw [h]
  exact ⟨pre_has _ _, pre_trim _ _⟩
theorem parseStateBody_any (s : ByteArray) (hlim : s.size ≤ 1048576) (w : World) (hS : Said w) : Calls Tryd.prog 32 #[.string s] w (PsR w s) := by
  obtain ⟨T, hT⟩ : ∃ T : ByteArray, Hid (T = ⟨(Lib.trimPrefix s.data.toList pre.data.toList).toArray⟩) := ⟨_, Lib.hid rfl⟩
  have hTd : Hid (T.data.toList = Lib.trimPrefix s.data.toList pre.data.toList) := Lib.hid (by rw [hT.out])
  have hTl : T.size ≤ 1048576 := by
    rw [Lib.size_eq, hTd.out, Lib.trimPrefix]
    rw [Lib.size_eq] at hlim
    split
    · rw [List.length_drop]; omega
    · exact hlim
  obtain ⟨B, hB0⟩ : ∃ B : Bool, Hid (B = Lib.hasPrefix s.data.toList pre.data.toList) := ⟨_, Lib.hid rfl⟩
  have hc : ∀ W, Calls Tryd.prog 51 #[.string s, .string ⟨#[115, 116, 97, 116, 101, 32]⟩] W fun e w' => e = .returned (.tuple #[.string T, .bool B]) ∧ w' = W := fun W => by
    have := Tryd.strings_CutPrefix s pre W
    rw [← hT.out, ← hB0.out] at this
    exact this
  go_enter Tryd.func32, Tryd.ntmps32
  go_wp2_with fail
  refine (hc _).mono ?_
  rintro e w1 ⟨rfl, rfl⟩
  clear hc
  go_wp2_with fail
  refine (readNumber_any T hTl _ hS).mono ?_
  rintro e w2 ⟨v, b, rfl, h1, h2, hb⟩
  have H : Hid ((b = true → Lib.atoiAll T.data.toList = .ok v ∧ T.data.toList = Lib.itoa v) ∧ (∀ n, Lib.atoiAll T.data.toList = .ok n → T.data.toList = Lib.itoa n → b = true ∧ v = n)) := Lib.hid ⟨h1, h2⟩
  clear h1 h2
  -- if s spells n, all three tests hold
  have HN : Hid (∀ n : Int, 0 ≤ n ∧ n ≤ 5 → s.toList = (stT n).toList → B = true ∧ b = true ∧ v = n) := Lib.hid (fun n hn hs => by
    obtain ⟨p1, p2⟩ := of_spell hs
    have hd : T.data.toList = (digT n).data.toList := hTd.out.trans p2
    obtain ⟨q1, q2⟩ := dig_ok hn
    obtain ⟨r1, r2⟩ := H.out.2 n (by rw [hd]; exact q1) (by rw [hd]; exact q2)
    exact ⟨hB0.out.trans p1, r1, r2⟩)
  have HY : Hid (B = true → b = true → 0 ≤ v ∧ v ≤ 5 → Spells s v) := Lib.hid (fun hB hb hv => by
    refine .inr ⟨hv, ?_⟩
    obtain ⟨_, hi⟩ := H.out.1 hb
    have hs := hasPre (hB0.out.symm.trans hB)
    rw [Go.ByteArray.toList_eq, Go.ByteArray.toList_eq, stT_data, (dig_ok hv).2, ← hi, hTd.out]
    exact hs)
  clear H
  cases B with
  | false =>
    have HR : Hid (Spells s (-1)) := Lib.hid (.inl ⟨rfl, fun n hn hs => by have := (HN.out n hn hs).1; cases this⟩)
    clear HN HY
    go_wp2
    go_ret2
    exact ⟨0, false, rfl, Lib.hid (.inl ⟨rfl, rfl, HR.out⟩), hb⟩
  | true =>
    cases b with
    | false =>
      have HR : Hid (Spells s (-1)) := Lib.hid (.inl ⟨rfl, fun n hn hs => by have := (HN.out n hn hs).2.1; cases this⟩)
      clear HN HY
      go_wp2
      go_ret2
      exact ⟨0, false, rfl, Lib.hid (.inl ⟨rfl, rfl, HR.out⟩), hb⟩
    | true =>
      go_wp2_with fail
      refine (isState_a v _).mono ?_
      rintro e w3 ⟨rfl, hb3⟩
      have hB3 := Below.on' hb hb3
      by_cases g : stOk v = true
      · have hv := stOk_in g
        have HR := Lib.hid (HY.out (by trivial) (by trivial) hv)
        rw [g]
        clear HN HY
        go_wp2
        go_ret2
        exact ⟨v, true, rfl, Lib.hid (.inr ⟨rfl, hv.1, HR.out⟩), hB3⟩
      · have HR : Hid (Spells s (-1)) := Lib.hid (.inl ⟨rfl, fun n hn hs => by
          obtain ⟨_, _, rfl⟩ := HN.out n hn hs
          exact g (by simp [stOk, inB, hn])⟩)
        have g' : stOk v = false := by simpa using g
        rw [g']
        clear HN HY g
        go_wp2
        go_ret2
        exact ⟨0, false, rfl, Lib.hid (.inl ⟨rfl, rfl, HR.out⟩), hB3⟩
theorem ParseStateBody_impl (s : ByteArray) (hlim : s.size ≤ 1048576) (w : World) (hS : Said w) : Calls Tryd.prog 13 #[.string s] w (PsR w s) := by
  go_enter Tryd.func13, Tryd.ntmps13
  go_wp2_with fail
  refine (parseStateBody_any s hlim _ hS).mono ?_
  rintro e w1 ⟨v, b, rfl, HR, hb⟩
  go_wp2
  go_ret2
  exact ⟨v, b, rfl, HR, hb⟩
theorem walk (s : ByteArray) (_hs : s.size ≤ maxLen) (w : World) (hL : laidMetH Tryd.prog Rows.fnExactParseStateBodyRow.laid w) : Calls Tryd.prog 5 #[.string s] w fun e w' => e = .returned (.bool true) ∧ Below w.heap.size w w' := by
  have hS := said_of hL
  clear hL
  by_cases hbig : 1048576 < s.size
  · have hbig' : (1048576 : Int) < s.size := by omega
    go_enter Tryd.func5, Tryd.ntmps5
    go_wp2
    go_ret
    exact ⟨rfl, by go_grown⟩
  have hlim : s.size ≤ 1048576 := by omega
  have hlim' : (s.size : Int) ≤ 1048576 := by omega
  clear hbig
  go_enter Tryd.func5, Tryd.ntmps5
  go_wp2_with fail
  refine (ParseStateBody_spec s _).mono ?_
  rintro e w1 ⟨v, b, rfl, HR, hb⟩
  have hS1 := hS.below hb
  go_wp2_with fail
  refine (ParseStateBody_impl s hlim _ hS1).mono ?_
  rintro e w2 ⟨v', b', rfl, HR', hb'⟩
  have hB := Below.on' hb hb'
  obtain ⟨rfl, rfl⟩ : v' = v ∧ b' = b := by
    rcases HR.out with ⟨rfl, rfl, h⟩ | ⟨rfl, h0, h⟩ <;> rcases HR'.out with ⟨rfl, rfl, h'⟩ | ⟨rfl, h0', h'⟩
    · exact ⟨rfl, rfl⟩
    · have := h.uniq h'; omega
    · have := h.uniq h'; omega
    · exact ⟨h'.uniq h, rfl⟩
  clear HR HR' hS hS1
  go_wp2
  go_ret
  exact ⟨rfl, hB⟩
theorem door_met (os : Os) (args : Array Value) : laidMetH Tryd.prog Rows.fnExactParseStateBodyRow.laid ((World.doorLaid Tryd.prog 400 os).forCall (fun _ _ => 0) ⟨#[], args, []⟩).memory :=
  laidMetH_of_parts3 (fuel := 8) (laidMet_of_run' 8 (by kernel_rfl) (by kernel_rfl)) (by kernel_rfl) (by kernel_rfl)
set_option maxRecDepth 100000 in
theorem lifted (os : Os) (started : os.Started) (H : Type) (enc : TypeId × Value → H) :
    ReturnsInHanded {} Tryd.checked os 5 .any (fun w args => (Rows.fnExactParseStateBodySpec.pre enc Tryd.prog Tryd.f5 [] false w args ∧ laidMetH Tryd.prog Rows.fnExactParseStateBodyRow.laid w) ∧ sizedMet enc Tryd.prog Tryd.f5 (OpenSpec.ofChange Rows.fnExactParseStateBodySpec) false w args) (Rows.fnExactParseStateBodySpec.post enc Tryd.prog Tryd.f5 false true false false) := by
  refine law_liftedD (C := Tryd.checked) own started (by kernel_rfl) Tryd.func5
    (ChangeSpec.witness_shaped (enc := enc) (C := Tryd.checked) (os := os) (X := fun w _ => laidMetH Tryd.prog Rows.fnExactParseStateBodyRow.laid w) false (World.doorLaid Tryd.prog 400 os) #[.string ⟨#[]⟩] 8 rfl (World.shaped_of_RefB (by kernel_rfl) (by kernel_rfl)) (by kernel_rfl) (by kernel_rfl) (by kernel_rfl) (door_met os _))
    laidOut 4 (by kernel_rfl) Tryd.underlying4 (by kernel_rfl) rfl ?_ ?_
  · intro ds hds
    have hn : Tryd.f5.params.size = 1 := by kernel_rfl
    rw [hn] at hds
    match ds, hds with
    | [d0], _ => rfl
  intro W base args ds p hval0 hA0 hlt hnf hL
  have hval : ∀ (j : Nat) t v, Tryd.f5.params[j]? = some t → args[j]? = some v → Value.okWide Tryd.prog W .any base t v := hval0
  have hA : DataW.TrodAll enc Tryd.prog W 0 (fun _ => true) true Tryd.f5.params.toList args.toList ds p := hA0
  clear hval0 hA0
  rw [Tryd.params5] at hA hval
  obtain ⟨v0, vs0, d0, ds0, p0, q0, hargs, rfl, rfl, h0, r0⟩ := trodAll_cons hA
  obtain ⟨rfl, rfl, rfl⟩ := trodAll_nil r0
  obtain rfl : args = #[v0] := by cases args; simp_all
  obtain ⟨s, rfl, rfl, rfl, hs⟩ := Go.ChangeMaps.open_string Tryd.underlying9 (hval 0 9 v0 rfl rfl) h0
  exact walk s hs W hL

theorem over : Rows.fnExactParseStateBodyRow.holds Tryd.pinned (OpenSpec.ofChange Rows.fnExactParseStateBodySpec) :=
  OpenClaim.holds_of_wide 5 Tryd.f5 rfl rfl rfl rfl rfl rfl rfl ⟨rfl, rfl, rfl, rfl, rfl⟩ rfl rfl rfl rfl rfl (by kernel_rfl) Tryd.func5 (by kernel_rfl)
    (of_decide_eq_true (by kernel_rfl)) (by unfold Func.isWrapper; first | (rw [if_pos (by decide +kernel)]; kernel_rfl) | (rw [if_neg (by decide +kernel)]; exact ⟨rfl, rfl⟩))
    (fun os started H enc _ => lifted os started H enc)

theorem proved : Rows.FnExactParseStateBodyCardSaid :=
  Claim7.holds_tied_plain_at .later [] [.data, .data, .data, .sentinel, .sentinel] true Rows.fnExactParseStateBodyCard.stood.harness true
    over (fun _ h => by cases h) (by kernel_rfl) (fun _ h => by cases h) fnExactParseStateBody_row_tie rfl ⟨rfl, rfl⟩ (by kernel_rfl) rfl
    (fun f fn hf hfn => by
      obtain rfl : f = 5 := Option.some.inj ((show Tryd.prog.funcNamed "loop.example/g01020/laws.FnExactParseStateBody" = some 5 by kernel_rfl).symm.trans hf) |>.symm
      obtain rfl : fn = Tryd.f5 := (Option.some.inj (Tryd.func5.symm.trans hfn)).symm
      exact ⟨by kernel_rfl, fun j t ht => by
        rw [Tryd.params5] at ht
        have hm : t ∈ [9] := by simpa using Array.mem_of_getElem? ht
        have hall : ([9].all fun u => !Tryd.prog.wantsStandIn u) = true := by kernel_rfl
        exact (show Tryd.prog.wantsStandIn t = false by simpa using List.all_eq_true.1 hall t hm)⟩)
    (by kernel_rfl)
#print axioms proved
end Go.Proofs.YtpfopmlbnogilaaDoor.lawParseStateBody

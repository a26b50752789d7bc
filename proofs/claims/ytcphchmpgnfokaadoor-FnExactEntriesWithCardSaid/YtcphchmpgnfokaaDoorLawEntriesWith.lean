/- FnExactEntriesWith: the program's EntriesWith returns what the reference's returns, for all arguments. No conditions beyond the card's own: the listed variables are those that the program's text lays. -/
import Derived.Test.YtcphchmpgnfokaaDoorWith
import Derived.Test.YtcphchmpgnfokaaDoorEntMk
import Derived.Test.YtcphchmpgnfokaaDoorEntArg
import Derived.Test.YtcphchmpgnfokaaDoorSaid
import Derived.Test.YtcphchmpgnfokaaDoorArg
import Derived.Test.YtcphchmpgnfokaaDoorTie
import Derived.Test.YtcphchmpgnfokaaDoorCards
import Derived.SevenTiedAt
import Derived.Lay
import Derived.ChangeMaps5
namespace Go.Proofs.YtcphchmpgnfokaaDoor.lawEntriesWith
open Go.ChangeShapes Go.WideShapes Go.ChangeAt Go.RowKit Go.Joins Go.Proofs.YtcphchmpgnfokaaDoor

set_option maxHeartbeats 4000000 in
theorem walk (Al : Option Addr) (cl : Nat) (l : List Ent) (hll : l.length ≤ maxLen) (hml : ∀ x ∈ l, x.t.size ≤ maxLen) (p : ByteArray) (_hp : p.size ≤ maxLen) (w : World) (hSl : Ents w 0 w.heap.size Al l) (hL : laidMetH Tryd.prog Rows.fnExactEntriesWithRow.laid w) (hSh : w.ShapedOpen Tryd.prog) : Calls Tryd.prog 12 #[.slice Al l.length cl, .string p] w fun e w' => e = .returned (.bool true) ∧ Below w.heap.size w w' := by
  have hT : Said w := by
    have h : laidMet Tryd.prog Rows.fnExactEntriesWithRow.laid w := by rw [MakeChecks.laidMetH_plain _ _ _ (by kernel_rfl)] at hL; exact hL
    exact said_at h.tail.tail h.tail.tail.tail.tail
  clear hL
  have hX : MaxL w := maxL_of hSh
  clear hSh
  go_enter Tryd.func12, Tryd.ntmps12
  by_cases hbigp : 1048576 < p.size
  · have hbig' : (1048576 : Int) < p.size := by omega
    go_wp2
    go_ret
    exact ⟨rfl, Below.refl _ _⟩
  have hs'p : p.size ≤ 1048576 := by omega
  have hs''p : (p.size : Int) ≤ 1048576 := by omega
  clear hbigp
  go_wp2_with fail
  refine (szEntryS_any Al cl l _ _ hll hml hSl (by omega) (by omega)).mono ?_
  rintro e w1 ⟨r0, rfl, hr0, hrest, hb⟩
  have hb1 : Below w.heap.size w w1 := Below.on' (by go_grown) hb
  clear hb
  have hB1 : Below w.heap.size w w1 := hb1
  have z1 : w.heap.size ≤ w1.heap.size := hb1.size
  by_cases h0r0 : r0 < 0
  · go_wp2
    go_ret
    exact ⟨rfl, hB1⟩
  obtain ⟨hl'l, hm'l⟩ := hrest (by omega)
  clear hrest
  have hLR0 : (witR l p).length ≤ 1048576 := Nat.le_trans (witR_len l p) hl'l
  go_wp2_with fail
  refine (toEntryS_any Al cl l _ hl'l (hSl.below hB1).all).mono ?_
  rintro e w2 ⟨gt0, rfl, hU, hb⟩
  have hb2 : Below w1.heap.size w1 w2 := Below.on' (by go_grown) hb
  clear hb
  have hB2 : Below w.heap.size w w2 := Below.on' hB1 hb2
  have z2 : w1.heap.size ≤ w2.heap.size := hb2.size
  have hTt0 := hU.mono (lo' := w1.heap.size) (hi' := w2.heap.size) (by first | exact Nat.le_refl _ | (simp; done) | (simp; omega)) (Nat.le_refl _) (Nat.le_refl _)
  clear hU
  go_wp2_with fail
  refine (EntriesWith_spec _ _ l p _ hl'l hm'l hTt0.all (Nat.le_refl _) hs'p).mono ?_
  rintro e w3 ⟨Aa0, ca0, rfl, hU0, hcc0, hb⟩
  have hb3 : Below w2.heap.size w2 w3 := Below.on' (by go_grown) hb
  clear hb
  have hB3 : Below w.heap.size w w3 := Below.on' hB2 hb3
  have z3 : w2.heap.size ≤ w3.heap.size := hb3.size
  replace hTt0 := hTt0.below hb3
  have hTa0 := hU0.mono (lo' := w2.heap.size) (hi' := w3.heap.size) (by first | exact Nat.le_refl _ | (simp; done) | (simp; omega)) (Nat.le_refl _) (by first | exact Nat.le_refl _ | omega)
  clear hU0 hcc0
  clear hTt0
  go_wp2_with fail
  refine (toEntryS_any Al cl l _ hl'l (hSl.below hB3).all).mono ?_
  rintro e w4 ⟨gx0, rfl, hU, hb⟩
  have hb4 : Below w3.heap.size w3 w4 := Below.on' (by go_grown) hb
  clear hb
  have hB4 : Below w.heap.size w w4 := Below.on' hB3 hb4
  have z4 : w3.heap.size ≤ w4.heap.size := hb4.size
  replace hTa0 := hTa0.below hb4
  have hTx0 := hU.mono (lo' := w3.heap.size) (hi' := w4.heap.size) (by first | exact Nat.le_refl _ | (simp; done) | (simp; omega)) (Nat.le_refl _) (Nat.le_refl _)
  clear hU
  go_wp2_with fail
  refine (EntriesWith_impl _ _ l p _ hl'l hm'l hTx0.all (Nat.le_refl _) hs'p (hT.below hB4) (hX.below hB4)).mono ?_
  rintro e w5 ⟨Ab0, cb0, rfl, hU0, hcc0, hb⟩
  have hb5 : Below w4.heap.size w4 w5 := Below.on' (by go_grown) hb
  clear hb
  have hB5 : Below w.heap.size w w5 := Below.on' hB4 hb5
  have z5 : w4.heap.size ≤ w5.heap.size := hb5.size
  replace hTa0 := hTa0.below hb5
  replace hTx0 := hTx0.below hb5
  have hTb0 := hU0.mono (lo' := w4.heap.size) (hi' := w5.heap.size) (by first | exact Nat.le_refl _ | (simp; done) | (simp; omega)) (Nat.le_refl _) (by first | exact Nat.le_refl _ | omega)
  clear hU0 hcc0
  go_wp2_with fail
  refine (eqIntS_same _ _ _ _ _ _ _ _ _ _ hLR0 hTb0 hTa0).mono ?_
  rintro e w6 ⟨rfl, hb⟩
  have hb6 : Below w5.heap.size w5 w6 := Below.on' (by go_grown) hb
  clear hb
  have hB6 : Below w.heap.size w w6 := Below.on' hB5 hb6
  have z6 : w5.heap.size ≤ w6.heap.size := hb6.size
  replace hTa0 := hTa0.below hb6
  replace hTx0 := hTx0.below hb6
  replace hTb0 := hTb0.below hb6
  go_wp2_with fail
  refine (toEntryS_any Al cl l _ hl'l (hSl.below hB6).all).mono ?_
  rintro e w7 ⟨gy, rfl, hU, hb⟩
  have hb7 : Below w6.heap.size w6 w7 := Below.on' (by go_grown) hb
  clear hb
  have hB7 : Below w.heap.size w w7 := Below.on' hB6 hb7
  have z7 : w6.heap.size ≤ w7.heap.size := hb7.size
  replace hTa0 := hTa0.below hb7
  replace hTx0 := hTx0.below hb7
  replace hTb0 := hTb0.below hb7
  have hTy := hU.mono (lo' := w6.heap.size) (hi' := w7.heap.size) (by first | exact Nat.le_refl _ | (simp; done) | (simp; omega)) (Nat.le_refl _) (Nat.le_refl _)
  clear hU
  go_wp2_with fail
  refine (eqEntryS_same _ _ _ _ _ _ _ _ _ _ hl'l hTx0 hTy).mono ?_
  rintro e w8 ⟨rfl, hb⟩
  have hb8 : Below w7.heap.size w7 w8 := Below.on' (by go_grown) hb
  clear hb
  have hB8 : Below w.heap.size w w8 := Below.on' hB7 hb8
  have z8 : w7.heap.size ≤ w8.heap.size := hb8.size
  replace hTa0 := hTa0.below hb8
  replace hTx0 := hTx0.below hb8
  replace hTb0 := hTb0.below hb8
  replace hTy := hTy.below hb8
  clear hTy
  go_wp2_with fail
  refine (markEntryS_any _ _ _ _ _ _ _ hl'l (by omega) (by omega) hTx0).mono ?_
  rintro e w9 ⟨rfl, hM, hF⟩
  have hB9 : Below w.heap.size w w9 := hB8.trans (hF.below (by omega) (by omega))
  have z9 : w8.heap.size ≤ w9.heap.size := hF.size
  replace hTa0 := hTa0.fr hF (by omega)
  replace hTb0 := hTb0.fr hF (by omega)
  clear hF
  replace hTx0 := hM
  clear hM
  clear hTx0
  go_wp2_with fail
  refine (eqIntS_same _ _ _ _ _ _ _ _ _ _ hLR0 hTb0 hTa0).mono ?_
  rintro e w10 ⟨rfl, hb⟩
  have hb10 : Below w9.heap.size w9 w10 := Below.on' (by go_grown) hb
  clear hb
  have hB10 : Below w.heap.size w w10 := Below.on' hB9 hb10
  have z10 : w9.heap.size ≤ w10.heap.size := hb10.size
  replace hTa0 := hTa0.below hb10
  replace hTb0 := hTb0.below hb10
  go_wp2_with fail
  refine (markIntS_any _ _ _ _ _ _ _ hLR0 (by omega) (by omega) hTb0).mono ?_
  rintro e w11 ⟨rfl, hM, hF⟩
  have hB11 : Below w.heap.size w w11 := hB10.trans (hF.below (by omega) (by omega))
  have z11 : w10.heap.size ≤ w11.heap.size := hF.size
  replace hTa0 := hTa0.fr hF (by omega)
  clear hF
  replace hTb0 := hM
  clear hM
  go_wp2_with fail
  refine (heldIntS_any _ _ _ _ _ _ _ hLR0 (by omega) (by omega) hTb0).mono ?_
  rintro e w12 ⟨rfl, hb⟩
  have hb12 : Below w11.heap.size w11 w12 := Below.on' (by go_grown) hb
  clear hb
  have hB12 : Below w.heap.size w w12 := Below.on' hB11 hb12
  have z12 : w11.heap.size ≤ w12.heap.size := hb12.size
  replace hTa0 := hTa0.below hb12
  replace hTb0 := hTb0.below hb12
  go_wp2_with fail
  refine (toEntryS_any Al cl l _ hl'l (hSl.below hB12).all).mono ?_
  rintro e w13 ⟨gt0, rfl, hU, hb⟩
  have hb13 : Below w12.heap.size w12 w13 := Below.on' (by go_grown) hb
  clear hb
  have hB13 : Below w.heap.size w w13 := Below.on' hB12 hb13
  have z13 : w12.heap.size ≤ w13.heap.size := hb13.size
  replace hTa0 := hTa0.below hb13
  replace hTb0 := hTb0.below hb13
  have hTt0 := hU.mono (lo' := w12.heap.size) (hi' := w13.heap.size) (by first | exact Nat.le_refl _ | (simp; done) | (simp; omega)) (Nat.le_refl _) (Nat.le_refl _)
  clear hU
  go_wp2_with fail
  refine (EntriesWith_impl _ _ l p _ hl'l hm'l hTt0.all (Nat.le_refl _) hs'p (hT.below hB13) (hX.below hB13)).mono ?_
  rintro e w14 ⟨Ah0, ch0, rfl, hU0, hcc0, hb⟩
  have hb14 : Below w13.heap.size w13 w14 := Below.on' (by go_grown) hb
  clear hb
  have hB14 : Below w.heap.size w w14 := Below.on' hB13 hb14
  have z14 : w13.heap.size ≤ w14.heap.size := hb14.size
  replace hTa0 := hTa0.below hb14
  replace hTb0 := hTb0.below hb14
  replace hTt0 := hTt0.below hb14
  have hTh0 := hU0.mono (lo' := w13.heap.size) (hi' := w14.heap.size) (by first | exact Nat.le_refl _ | (simp; done) | (simp; omega)) (Nat.le_refl _) (by first | exact Nat.le_refl _ | omega)
  clear hU0 hcc0
  clear hTt0
  go_wp2_with fail
  refine (eqIntS_same _ _ _ _ _ _ _ _ _ _ hLR0 hTh0 hTa0).mono ?_
  rintro e w15 ⟨rfl, hb⟩
  have hb15 : Below w14.heap.size w14 w15 := Below.on' (by go_grown) hb
  clear hb
  have hB15 : Below w.heap.size w w15 := Below.on' hB14 hb15
  have z15 : w14.heap.size ≤ w15.heap.size := hb15.size
  replace hTa0 := hTa0.below hb15
  replace hTb0 := hTb0.below hb15
  replace hTh0 := hTh0.below hb15
  clear hTh0
  clear hTa0
  go_wp2_with fail
  refine (heldIntS_any _ _ _ _ _ _ _ hLR0 (by omega) (by omega) hTb0).mono ?_
  rintro e w16 ⟨rfl, hb⟩
  have hb16 : Below w15.heap.size w15 w16 := Below.on' (by go_grown) hb
  clear hb
  have hB16 : Below w.heap.size w w16 := Below.on' hB15 hb16
  have z16 : w15.heap.size ≤ w16.heap.size := hb16.size
  replace hTb0 := hTb0.below hb16
  go_wp2_with fail
  go_ret
  exact ⟨rfl, hB16⟩

theorem lay_met (os : Os) (args : Array Value) : laidMetH Tryd.prog Rows.fnExactEntriesWithRow.laid ((World.laidAll Tryd.prog os Rows.fnExactEntriesWithRow.laid).forCall (fun _ _ => 0) ⟨#[], args, []⟩).memory := by
  rw [MakeChecks.laidMetH_plain _ _ _ (by kernel_rfl)]
  exact laidMet_laidAll _ (by kernel_rfl) (by kernel_rfl)
set_option maxRecDepth 100000 in
theorem lifted (os : Os) (started : os.Started) (H : Type) (enc : TypeId × Value → H) :
    ReturnsInHanded {} Tryd.checked os 12 .any (fun w args => (Rows.fnExactEntriesWithSpec.pre enc Tryd.prog Tryd.f12 [] false w args ∧ laidMetH Tryd.prog Rows.fnExactEntriesWithRow.laid w) ∧ sizedMet enc Tryd.prog Tryd.f12 (OpenSpec.ofChange Rows.fnExactEntriesWithSpec) false w args) (Rows.fnExactEntriesWithSpec.post enc Tryd.prog Tryd.f12 false true false false) := by
  refine law_liftedD (C := Tryd.checked) own started (by kernel_rfl) Tryd.func12
    (ChangeSpec.witness_shaped (enc := enc) (C := Tryd.checked) (os := os) (X := fun w _ => laidMetH Tryd.prog Rows.fnExactEntriesWithRow.laid w) false (World.laidAll Tryd.prog os Rows.fnExactEntriesWithRow.laid) #[.slice none 0 0, .string ⟨#[]⟩] 8 (World.laidAll_os _ _ _) (World.shaped_of_ZipB (by kernel_rfl) (by kernel_rfl)) (by kernel_rfl) (by kernel_rfl) (by kernel_rfl) (lay_met os _))
    laidOut 4 (by kernel_rfl) Tryd.underlying4 (by kernel_rfl) rfl ?_ ?_
  · intro ds hds
    have hn : Tryd.f12.params.size = 2 := by kernel_rfl
    rw [hn] at hds
    match ds, hds with
    | [d0, d1], _ => rfl
  intro W base args ds p hval0 hA0 hlt hnf hL hSh
  have hval : ∀ (j : Nat) t v, Tryd.f12.params[j]? = some t → args[j]? = some v → Value.okWide Tryd.prog W .any base t v := hval0
  have hA : DataW.TrodAll enc Tryd.prog W 0 (fun _ => true) true Tryd.f12.params.toList args.toList ds p := hA0
  clear hval0 hA0
  rw [Tryd.params12] at hA hval
  obtain ⟨v0, vs0, d0, ds0, p0, q0, hargs, rfl, rfl, h0, r0⟩ := trodAll_cons hA
  obtain ⟨v1, vs1, d1, ds1, p1, q1, rfl, rfl, rfl, h1, r1⟩ := trodAll_cons r0
  obtain ⟨rfl, rfl, rfl⟩ := trodAll_nil r1
  obtain rfl : args = #[v0, v1] := by cases args; simp_all
  obtain ⟨Al, cl, l, rfl, hll, hml, hSl⟩ := Ent.openedS (hval 0 36 v0 rfl rfl) h0 (fun x hx => hlt x (by simp [hx])) (fun b o h => hnf b o (by simp [h]))
  obtain ⟨p, rfl, rfl, rfl, hp⟩ := Go.ChangeMaps.open_string Tryd.underlying9 (hval 1 9 v1 rfl rfl) h1
  exact walk Al cl l hll hml p hp W hSl hL hSh

theorem over : Rows.fnExactEntriesWithRow.holds Tryd.pinned (OpenSpec.ofChange Rows.fnExactEntriesWithSpec) :=
  OpenClaim.holds_of_wide 12 Tryd.f12 rfl rfl rfl rfl rfl rfl rfl ⟨rfl, rfl, rfl, rfl, rfl⟩ rfl rfl rfl rfl rfl (by kernel_rfl) Tryd.func12 (by kernel_rfl)
    (of_decide_eq_true (by kernel_rfl)) (by unfold Func.isWrapper; first | (rw [if_pos (by decide +kernel)]; kernel_rfl) | (rw [if_neg (by decide +kernel)]; exact ⟨rfl, rfl⟩))
    (fun os started H enc _ => lifted os started H enc)

theorem proved : Rows.FnExactEntriesWithCardSaid :=
  Claim7.holds_tied_plain_at .later [] [.data, .data, .data, .data, .sentinel, .sentinel, .pinned] true Rows.fnExactEntriesWithCard.stood.harness true
    over (fun _ h => by cases h) (by kernel_rfl) (fun _ h => by cases h) fnExactEntriesWith_row_tie rfl ⟨rfl, rfl⟩ (by kernel_rfl) rfl
    (fun f fn hf hfn => by
      obtain rfl : f = 12 := Option.some.inj ((show Tryd.prog.funcNamed "loop.example/g01020/laws.FnExactEntriesWith" = some 12 by kernel_rfl).symm.trans hf) |>.symm
      obtain rfl : fn = Tryd.f12 := (Option.some.inj (Tryd.func12.symm.trans hfn)).symm
      exact ⟨by kernel_rfl, fun j t ht => by
        rw [Tryd.params12] at ht
        have hm : t ∈ [36, 9] := by simpa using Array.mem_of_getElem? ht
        have hall : ([36, 9].all fun u => !Tryd.prog.wantsStandIn u) = true := by kernel_rfl
        exact (show Tryd.prog.wantsStandIn t = false by simpa using List.all_eq_true.1 hall t hm)⟩)
    (by kernel_rfl)
#print axioms proved
end Go.Proofs.YtcphchmpgnfokaaDoor.lawEntriesWith

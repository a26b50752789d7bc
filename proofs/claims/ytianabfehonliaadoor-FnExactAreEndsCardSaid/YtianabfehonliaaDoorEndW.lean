/- AreEnds, as the program and the reference give it out. Conditions: as XEndC has them. -/
import Derived.Test.YtianabfehonliaaDoorEndC
namespace Go.Proofs.YtianabfehonliaaDoor
open Go.RowKit

theorem AreEnds_spec (Af : Option Addr) (cf : Nat) (f : List App) (An : Option Addr) (cn : Nat) (n : List App) (As : Option Addr) (cs : Nat) (s : List Msg) (Ar : Option Addr) (cr : Nat) (r : List Msg) (Ah : Option Addr) (ch : Nat) (h : List Msg) (w : World) (hlf : f.length ≤ 1048576) (hmf : ∀ y ∈ f, y.nm.size ≤ 1048576) (hSf : Apps w 0 w.heap.size Af f) (hln : n.length ≤ 1048576) (hmn : ∀ y ∈ n, y.nm.size ≤ 1048576) (hSn : Apps w 0 w.heap.size An n) (hls : s.length ≤ 1048576) (hms : ∀ y ∈ s, y.f.size ≤ 1048576 ∧ y.b.size ≤ 1048576) (hSs : Msgs w 0 w.heap.size As s) (hcs : s.length ≤ cs) (hlr : r.length ≤ 1048576) (hmr : ∀ y ∈ r, y.f.size ≤ 1048576 ∧ y.b.size ≤ 1048576) (hSr : Msgs w 0 w.heap.size Ar r) (hcr : r.length ≤ cr) (hlh : h.length ≤ 1048576) (hmh : ∀ y ∈ h, y.f.size ≤ 1048576 ∧ y.b.size ≤ 1048576) (hSh : Msgs w 0 w.heap.size Ah h) (hch : h.length ≤ ch) :
    Calls Tryd.prog 9 #[.agg #[.slice Af f.length cf, .slice An n.length cn, .slice As s.length cs, .slice Ar r.length cr, .slice Ah h.length ch]] w (RV w (.bool (endsB f n s r h))) := by
  have hB0 : Below w.heap.size w (w.alloc (.cells #[.slice Af f.length cf, .slice An n.length cn, .slice As s.length cs, .slice Ar r.length cr, .slice Ah h.length ch] 41)) := by go_grown
  have hX := cells5.new w (.slice Af f.length cf) (.slice An n.length cn) (.slice As s.length cs) (.slice Ar r.length cr) (.slice Ah h.length ch) 41 _ rfl
  have hN := BN.new w #[.slice Af f.length cf, .slice An n.length cn, .slice As s.length cs, .slice Ar r.length cr, .slice Ah h.length ch] 41 _ rfl
  obtain ⟨b0, b1, b2, b3, b4⟩ := id hX
  go_enter Tryd.func9, Tryd.ntmps9
  go_wp2_with fail
  clear hN
  refine (stGood_any Af cf f An cn n As cs s Ar cr r Ah ch h _ hlf hmf (hSf.below hB0).all hln hmn (hSn.below hB0).all hls hms (hSs.below hB0).all hcs hlr hmr (hSr.below hB0).all hcr hlh hmh (hSh.below hB0).all hch).mono ?_
  rintro e w1 ⟨rfl, hb⟩
  have hB := Below.on' hB0 hb
  go_wp2
  go_ret
  exact RV.mk rfl hB
theorem AreEnds_impl (Af : Option Addr) (cf : Nat) (f : List App) (An : Option Addr) (cn : Nat) (n : List App) (As : Option Addr) (cs : Nat) (s : List Msg) (Ar : Option Addr) (cr : Nat) (r : List Msg) (Ah : Option Addr) (ch : Nat) (h : List Msg) (w : World) (hlf : f.length ≤ 1048576) (hmf : ∀ y ∈ f, y.nm.size ≤ 1048576) (hSf : Apps w 0 w.heap.size Af f) (hln : n.length ≤ 1048576) (hmn : ∀ y ∈ n, y.nm.size ≤ 1048576) (hSn : Apps w 0 w.heap.size An n) (hls : s.length ≤ 1048576) (hms : ∀ y ∈ s, y.f.size ≤ 1048576 ∧ y.b.size ≤ 1048576) (hSs : Msgs w 0 w.heap.size As s) (hcs : s.length ≤ cs) (hlr : r.length ≤ 1048576) (hmr : ∀ y ∈ r, y.f.size ≤ 1048576 ∧ y.b.size ≤ 1048576) (hSr : Msgs w 0 w.heap.size Ar r) (hcr : r.length ≤ cr) (hlh : h.length ≤ 1048576) (hmh : ∀ y ∈ h, y.f.size ≤ 1048576 ∧ y.b.size ≤ 1048576) (hSh : Msgs w 0 w.heap.size Ah h) (hch : h.length ≤ ch) (hT : Said w) :
    Calls Tryd.prog 11 #[.agg #[.slice Af f.length cf, .slice An n.length cn, .slice As s.length cs, .slice Ar r.length cr, .slice Ah h.length ch]] w (RV w (.bool (endsB f n s r h))) := by
  have hB0 : Below w.heap.size w (w.alloc (.cells #[.slice Af f.length cf, .slice An n.length cn, .slice As s.length cs, .slice Ar r.length cr, .slice Ah h.length ch] 41)) := by go_grown
  have hX := cells5.new w (.slice Af f.length cf) (.slice An n.length cn) (.slice As s.length cs) (.slice Ar r.length cr) (.slice Ah h.length ch) 41 _ rfl
  have hN := BN.new w #[.slice Af f.length cf, .slice An n.length cn, .slice As s.length cs, .slice Ar r.length cr, .slice Ah h.length ch] 41 _ rfl
  obtain ⟨b0, b1, b2, b3, b4⟩ := id hX
  go_enter Tryd.func11, Tryd.ntmps11
  go_wp2_with fail
  refine (areEnds_any Af cf f An cn n As cs s Ar cr r Ah ch h _ w.heap.size hN hlf hmf (hSf.below hB0).all hln hmn (hSn.below hB0).all hls hms (hSs.below hB0).all hcs hlr hmr (hSr.below hB0).all hcr hlh hmh (hSh.below hB0).all hch (hT.below hB0)).mono ?_
  rintro e w1 ⟨rfl, hb⟩
  have hB := Below.on' hB0 hb
  go_wp2
  go_ret
  exact RV.mk rfl hB
end Go.Proofs.YtianabfehonliaaDoor

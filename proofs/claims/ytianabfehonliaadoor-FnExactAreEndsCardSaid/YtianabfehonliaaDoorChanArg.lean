/- Channels that come in as arguments, opened. No conditions. -/
import Derived.Test.YtianabfehonliaaDoorSlc
import Derived.Test.YtianabfehonliaaDoorMsgArg
namespace Go.Proofs.YtianabfehonliaaDoor
open Go.ChangeShapes Go.WideShapes Go.ChangeAt Go.RowKit Go.Joins

section
variable {H : Type} {enc : TypeId × Value → H} {W : World}
set_option maxRecDepth 100000 in
theorem Chan.rd (fuel : Nat) (cs : List Value) (y : DataW H × List MemPlace) (hl : cs.length = 3) (ht : DataW.trod enc Tryd.prog W 0 (fun _ => true) true fuel 31 cs = some y) (hlt : ∀ x ∈ y.2, x.block < W.heap.size) (hnf : W.noneFrozen y.2) :
    ∃ (As : Option Addr) (cs' : Nat) (s : List Msg) (Ar : Option Addr) (cr : Nat) (r : List Msg) (Ah : Option Addr) (ch : Nat) (h : List Msg), cs = [.slice As s.length cs', .slice Ar r.length cr, .slice Ah h.length ch] ∧
      (s.length ≤ maxLen ∧ (∀ x ∈ s, x.f.size ≤ maxLen ∧ x.b.size ≤ maxLen) ∧ Msgs W 0 W.heap.size As s) ∧ (r.length ≤ maxLen ∧ (∀ x ∈ r, x.f.size ≤ maxLen ∧ x.b.size ≤ maxLen) ∧ Msgs W 0 W.heap.size Ar r) ∧ (h.length ≤ maxLen ∧ (∀ x ∈ h, x.f.size ≤ maxLen ∧ x.b.size ≤ maxLen) ∧ Msgs W 0 W.heap.size Ah h) := by
  match cs, hl with
  | [c0, c1, c2], _ =>
    obtain ⟨xs, m, _, hx, _, hlen, hg⟩ := DataW.trod_struct Tryd.underlying31 ht
    match xs, hlen with
    | [y0, y1, y2], _ =>
      subst hx
      have g0 : DataW.trod enc Tryd.prog W 0 (fun _ => true) true m 29 (List.take (Tryd.prog.cellsOf 29) (List.drop 0 [c0, c1, c2])) = some y0 := hg 0 _ rfl
      rw [show Tryd.prog.cellsOf 29 = 1 from by kernel_rfl] at g0
      have g1 : DataW.trod enc Tryd.prog W 0 (fun _ => true) true m 29 (List.take (Tryd.prog.cellsOf 29) (List.drop 1 [c0, c1, c2])) = some y1 := hg 1 _ rfl
      rw [show Tryd.prog.cellsOf 29 = 1 from by kernel_rfl] at g1
      have g2 : DataW.trod enc Tryd.prog W 0 (fun _ => true) true m 29 (List.take (Tryd.prog.cellsOf 29) (List.drop 2 [c0, c1, c2])) = some y2 := hg 2 _ rfl
      rw [show Tryd.prog.cellsOf 29 = 1 from by kernel_rfl] at g2
      obtain ⟨As, cs, s, rfl, hls, hms, hSs⟩ := open_slc (d := y0.1) (p := y0.2) (fun x => x.f.size ≤ maxLen ∧ x.b.size ≤ maxLen) Tryd.underlying29 (by kernel_rfl) (by omega) Msg.len (fun n cs' y hl h => Msg.rd n cs' y hl h) g0 (fun x hx => hlt x (by simp [hx])) (fun b o hx => hnf b o (by simp [hx]))
      obtain ⟨Ar, cr, r, rfl, hlr, hmr, hSr⟩ := open_slc (d := y1.1) (p := y1.2) (fun x => x.f.size ≤ maxLen ∧ x.b.size ≤ maxLen) Tryd.underlying29 (by kernel_rfl) (by omega) Msg.len (fun n cs' y hl h => Msg.rd n cs' y hl h) g1 (fun x hx => hlt x (by simp [hx])) (fun b o hx => hnf b o (by simp [hx]))
      obtain ⟨Ah, ch, h, rfl, hlh, hmh, hSh⟩ := open_slc (d := y2.1) (p := y2.2) (fun x => x.f.size ≤ maxLen ∧ x.b.size ≤ maxLen) Tryd.underlying29 (by kernel_rfl) (by omega) Msg.len (fun n cs' y hl h => Msg.rd n cs' y hl h) g2 (fun x hx => hlt x (by simp [hx])) (fun b o hx => hnf b o (by simp [hx]))
      exact ⟨As, cs, s, Ar, cr, r, Ah, ch, h, rfl, ⟨hls, hms, hSs⟩, ⟨hlr, hmr, hSr⟩, ⟨hlh, hmh, hSh⟩⟩
set_option maxRecDepth 100000 in
theorem Chan.opened {r : Reach} {b0 : Nat} {v : Value} {d : DataW H} {p : List MemPlace} (hv : Value.okWide Tryd.prog W r b0 31 v) (h : DataW.Trod enc Tryd.prog W 0 (fun _ => true) true 31 v d p) (hlt : ∀ x ∈ p, x.block < W.heap.size) (hnf : W.noneFrozen p) :
    ∃ (As : Option Addr) (cs : Nat) (s : List Msg) (Ar : Option Addr) (cr : Nat) (r : List Msg) (Ah : Option Addr) (ch : Nat) (h : List Msg), v = .agg #[.slice As s.length cs, .slice Ar r.length cr, .slice Ah h.length ch] ∧
      (s.length ≤ maxLen ∧ (∀ x ∈ s, x.f.size ≤ maxLen ∧ x.b.size ≤ maxLen) ∧ Msgs W 0 W.heap.size As s) ∧ (r.length ≤ maxLen ∧ (∀ x ∈ r, x.f.size ≤ maxLen ∧ x.b.size ≤ maxLen) ∧ Msgs W 0 W.heap.size Ar r) ∧ (h.length ≤ maxLen ∧ (∀ x ∈ h, x.f.size ≤ maxLen ∧ x.b.size ≤ maxLen) ∧ Msgs W 0 W.heap.size Ah h) := by
  obtain ⟨vs, rfl, hsz⟩ := okWide_struct Tryd.underlying31 hv
  obtain ⟨fuel, hf⟩ := h
  have hC : Tryd.prog.cellsOf 31 = 3 := by kernel_rfl
  obtain ⟨As, cs, s, Ar, cr, r, Ah, ch, h, he, h1, h2, h3⟩ := Chan.rd fuel vs.toList _ (by rw [Array.length_toList]; exact hsz.trans hC) hf hlt hnf
  exact ⟨As, cs, s, Ar, cr, r, Ah, ch, h, by rw [← he], h1, h2, h3⟩
end
end Go.Proofs.YtianabfehonliaaDoor

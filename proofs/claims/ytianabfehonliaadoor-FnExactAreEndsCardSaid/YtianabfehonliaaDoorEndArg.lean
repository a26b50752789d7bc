/- Ends that come in as arguments, opened; sized; copied. Condition of the copy: at most 2^20 in each list. -/
import Derived.Test.YtianabfehonliaaDoorChanArg
import Derived.Test.YtianabfehonliaaDoorAppArg
import Derived.Test.YtianabfehonliaaDoorEnds
namespace Go.Proofs.YtianabfehonliaaDoor
open Go.ChangeShapes Go.WideShapes Go.ChangeAt Go.RowKit Go.Joins

section
variable {H : Type} {enc : TypeId × Value → H} {W : World}
set_option maxRecDepth 100000 in
theorem Ends.rd (fuel : Nat) (cs : List Value) (y : DataW H × List MemPlace) (hl : cs.length = 5) (ht : DataW.trod enc Tryd.prog W 0 (fun _ => true) true fuel 33 cs = some y) (hlt : ∀ x ∈ y.2, x.block < W.heap.size) (hnf : W.noneFrozen y.2) :
    ∃ (Af : Option Addr) (cf : Nat) (f : List App) (An : Option Addr) (cn : Nat) (n : List App) (As : Option Addr) (cs' : Nat) (s : List Msg) (Ar : Option Addr) (cr : Nat) (r : List Msg) (Ah : Option Addr) (ch : Nat) (h : List Msg), cs = [.slice Af f.length cf, .slice An n.length cn, .slice As s.length cs', .slice Ar r.length cr, .slice Ah h.length ch] ∧
      (f.length ≤ maxLen ∧ (∀ x ∈ f, x.nm.size ≤ maxLen) ∧ Apps W 0 W.heap.size Af f) ∧ (n.length ≤ maxLen ∧ (∀ x ∈ n, x.nm.size ≤ maxLen) ∧ Apps W 0 W.heap.size An n) ∧
      (s.length ≤ maxLen ∧ (∀ x ∈ s, x.f.size ≤ maxLen ∧ x.b.size ≤ maxLen) ∧ Msgs W 0 W.heap.size As s) ∧ (r.length ≤ maxLen ∧ (∀ x ∈ r, x.f.size ≤ maxLen ∧ x.b.size ≤ maxLen) ∧ Msgs W 0 W.heap.size Ar r) ∧ (h.length ≤ maxLen ∧ (∀ x ∈ h, x.f.size ≤ maxLen ∧ x.b.size ≤ maxLen) ∧ Msgs W 0 W.heap.size Ah h) := by
  match cs, hl with
  | [c0, c1, c2, c3, c4], _ =>
    obtain ⟨xs, m, _, hx, _, hlen, hg⟩ := DataW.trod_struct Tryd.underlying33 ht
    match xs, hlen with
    | [y0, y1, y2], _ =>
      subst hx
      have g0 : DataW.trod enc Tryd.prog W 0 (fun _ => true) true m 28 (List.take (Tryd.prog.cellsOf 28) (List.drop 0 [c0, c1, c2, c3, c4])) = some y0 := hg 0 _ rfl
      rw [show Tryd.prog.cellsOf 28 = 1 from by kernel_rfl] at g0
      have g1 : DataW.trod enc Tryd.prog W 0 (fun _ => true) true m 28 (List.take (Tryd.prog.cellsOf 28) (List.drop 1 [c0, c1, c2, c3, c4])) = some y1 := hg 1 _ rfl
      rw [show Tryd.prog.cellsOf 28 = 1 from by kernel_rfl] at g1
      have g2 : DataW.trod enc Tryd.prog W 0 (fun _ => true) true m 31 (List.take (Tryd.prog.cellsOf 31) (List.drop 2 [c0, c1, c2, c3, c4])) = some y2 := hg 2 _ rfl
      rw [show Tryd.prog.cellsOf 31 = 3 from by kernel_rfl] at g2
      obtain ⟨Af, cf, f, rfl, hlf, hmf, hSf⟩ := open_slc (d := y0.1) (p := y0.2) (fun x => x.nm.size ≤ maxLen) Tryd.underlying28 (by kernel_rfl) (by omega) App.len (fun n cs' y hl h => App.rd n cs' y hl h) g0 (fun x hx => hlt x (by simp [hx])) (fun b o hx => hnf b o (by simp [hx]))
      obtain ⟨An, cn, n, rfl, hln, hmn, hSn⟩ := open_slc (d := y1.1) (p := y1.2) (fun x => x.nm.size ≤ maxLen) Tryd.underlying28 (by kernel_rfl) (by omega) App.len (fun n cs' y hl h => App.rd n cs' y hl h) g1 (fun x hx => hlt x (by simp [hx])) (fun b o hx => hnf b o (by simp [hx]))
      obtain ⟨As, cs, s, Ar, cr, r, Ah, ch, h, he, h1, h2, h3⟩ := Chan.rd m [c2, c3, c4] y2 rfl g2 (fun x hx => hlt x (by simp [hx])) (fun b o hx => hnf b o (by simp [hx]))
      simp only [List.cons.injEq, and_true] at he
      obtain ⟨rfl, rfl, rfl⟩ := he
      exact ⟨Af, cf, f, An, cn, n, As, cs, s, Ar, cr, r, Ah, ch, h, rfl, ⟨hlf, hmf, hSf⟩, ⟨hln, hmn, hSn⟩, h1, h2, h3⟩
set_option maxRecDepth 100000 in
theorem Ends.opened {r : Reach} {b0 : Nat} {v : Value} {d : DataW H} {p : List MemPlace} (hv : Value.okWide Tryd.prog W r b0 33 v) (h : DataW.Trod enc Tryd.prog W 0 (fun _ => true) true 33 v d p) (hlt : ∀ x ∈ p, x.block < W.heap.size) (hnf : W.noneFrozen p) :
    ∃ (Af : Option Addr) (cf : Nat) (f : List App) (An : Option Addr) (cn : Nat) (n : List App) (As : Option Addr) (cs : Nat) (s : List Msg) (Ar : Option Addr) (cr : Nat) (r : List Msg) (Ah : Option Addr) (ch : Nat) (h : List Msg), v = .agg #[.slice Af f.length cf, .slice An n.length cn, .slice As s.length cs, .slice Ar r.length cr, .slice Ah h.length ch] ∧
      (f.length ≤ maxLen ∧ (∀ x ∈ f, x.nm.size ≤ maxLen) ∧ Apps W 0 W.heap.size Af f) ∧ (n.length ≤ maxLen ∧ (∀ x ∈ n, x.nm.size ≤ maxLen) ∧ Apps W 0 W.heap.size An n) ∧
      (s.length ≤ maxLen ∧ (∀ x ∈ s, x.f.size ≤ maxLen ∧ x.b.size ≤ maxLen) ∧ Msgs W 0 W.heap.size As s) ∧ (r.length ≤ maxLen ∧ (∀ x ∈ r, x.f.size ≤ maxLen ∧ x.b.size ≤ maxLen) ∧ Msgs W 0 W.heap.size Ar r) ∧ (h.length ≤ maxLen ∧ (∀ x ∈ h, x.f.size ≤ maxLen ∧ x.b.size ≤ maxLen) ∧ Msgs W 0 W.heap.size Ah h) := by
  obtain ⟨vs, rfl, hsz⟩ := okWide_struct Tryd.underlying33 hv
  obtain ⟨fuel, hf⟩ := h
  have hC : Tryd.prog.cellsOf 33 = 5 := by kernel_rfl
  obtain ⟨Af, cf, f, An, cn, n, As, cs, s, Ar, cr, r, Ah, ch, h, he, h1, h2, h3⟩ := Ends.rd fuel vs.toList _ (by rw [Array.length_toList]; exact hsz.trans hC) hf hlt hnf
  exact ⟨Af, cf, f, An, cn, n, As, cs, s, Ar, cr, r, Ah, ch, h, by rw [← he], h1, h2, h3⟩
end
end Go.Proofs.YtianabfehonliaaDoor

/- Appliances that come in as arguments, opened. No conditions. -/
import Derived.Test.YtianabfehonliaaDoorArg
import Derived.Test.YtianabfehonliaaDoorApp
namespace Go.Proofs.YtianabfehonliaaDoor
open Go.ChangeShapes Go.WideShapes Go.ChangeAt Go.RowKit Go.Joins Go.Deep

section
variable {H : Type} {enc : TypeId × Value → H} {W : World}
theorem App.rd (n : Nat) (cs' : List Value) (y : DataW H × List MemPlace) (hl : cs'.length = 5) (h : DataW.trod enc Tryd.prog W 0 (fun _ => true) true n 70 cs' = some y) :
    ∃ x : App, x.cells = cs' ∧ (x.nm.size ≤ maxLen) := by
  match cs', hl with
  | [c0, c1, c2, c3, c4], _ =>
    obtain ⟨xs, m, _, hx, _, hlen, hg⟩ := DataW.trod_struct Tryd.underlying70 h
    match xs, hlen with
    | [y0, y1, y2, y3, y4], _ =>
      have g0 : DataW.trod enc Tryd.prog W 0 (fun _ => true) true m 9 (List.take (Tryd.prog.cellsOf 9) (List.drop 0 [c0, c1, c2, c3, c4])) = some y0 := hg 0 _ rfl
      rw [show Tryd.prog.cellsOf 9 = 1 from by kernel_rfl] at g0
      have g1 : DataW.trod enc Tryd.prog W 0 (fun _ => true) true m 3 (List.take (Tryd.prog.cellsOf 3) (List.drop 1 [c0, c1, c2, c3, c4])) = some y1 := hg 1 _ rfl
      rw [show Tryd.prog.cellsOf 3 = 1 from by kernel_rfl] at g1
      have g2 : DataW.trod enc Tryd.prog W 0 (fun _ => true) true m 3 (List.take (Tryd.prog.cellsOf 3) (List.drop 2 [c0, c1, c2, c3, c4])) = some y2 := hg 2 _ rfl
      rw [show Tryd.prog.cellsOf 3 = 1 from by kernel_rfl] at g2
      have g3 : DataW.trod enc Tryd.prog W 0 (fun _ => true) true m 3 (List.take (Tryd.prog.cellsOf 3) (List.drop 3 [c0, c1, c2, c3, c4])) = some y3 := hg 3 _ rfl
      rw [show Tryd.prog.cellsOf 3 = 1 from by kernel_rfl] at g3
      have g4 : DataW.trod enc Tryd.prog W 0 (fun _ => true) true m 3 (List.take (Tryd.prog.cellsOf 3) (List.drop 4 [c0, c1, c2, c3, c4])) = some y4 := hg 4 _ rfl
      rw [show Tryd.prog.cellsOf 3 = 1 from by kernel_rfl] at g4
      obtain ⟨nm, e0, _, hnm⟩ := DataW.trod_string Tryd.underlying9 g0
      obtain ⟨kd, e1, _, _⟩ := DataW.trod_int Tryd.underlying3 g1
      obtain ⟨nd, e2, _, _⟩ := DataW.trod_int Tryd.underlying3 g2
      obtain ⟨cw, e3, _, _⟩ := DataW.trod_int Tryd.underlying3 g3
      obtain ⟨st, e4, _, _⟩ := DataW.trod_int Tryd.underlying3 g4
      simp at e0 e1 e2 e3 e4
      subst e0 e1 e2 e3 e4
      exact ⟨⟨nm, kd, nd, cw, st⟩, rfl, hnm⟩
set_option maxRecDepth 100000 in
theorem App.opened {r : Reach} {b0 : Nat} {v : Value} {d : DataW H} {p : List MemPlace} (hv : Value.okWide Tryd.prog W r b0 70 v) (h : DataW.Trod enc Tryd.prog W 0 (fun _ => true) true 70 v d p) :
    ∃ x : App, v = .agg x.cells.toArray ∧ (x.nm.size ≤ maxLen) := by
  obtain ⟨cs, rfl, hsz⟩ := okWide_struct Tryd.underlying70 hv
  obtain ⟨fuel, hf⟩ := h
  have hC : Tryd.prog.cellsOf 70 = 5 := by kernel_rfl
  obtain ⟨x, hx, hg⟩ := App.rd fuel cs.toList _ (by rw [Array.length_toList]; exact hsz.trans hC) hf
  exact ⟨x, by rw [hx], hg⟩
set_option maxRecDepth 100000 in
theorem App.openedS {r : Reach} {b0 : Nat} {v : Value} {d : DataW H} {p : List MemPlace} (hv : Value.okWide Tryd.prog W r b0 28 v) (h : DataW.Trod enc Tryd.prog W 0 (fun _ => true) true 28 v d p) (hlt : ∀ x ∈ p, x.block < W.heap.size) (hnf : W.noneFrozen p) :
    ∃ (A : Option Addr) (c : Nat) (l : List App), v = .slice A l.length c ∧ l.length ≤ maxLen ∧ (∀ x ∈ l, x.nm.size ≤ maxLen) ∧ Apps W 0 W.heap.size A l :=
  open_sl (fun x => x.nm.size ≤ maxLen) Tryd.underlying28 (by kernel_rfl) (by omega) App.len (fun n cs' y hl h => App.rd n cs' y hl h) hv h hlt hnf
end
end Go.Proofs.YtianabfehonliaaDoor

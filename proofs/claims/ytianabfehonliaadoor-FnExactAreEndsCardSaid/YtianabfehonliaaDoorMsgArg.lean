/- Messages that come in as arguments, opened. No conditions. -/
import Derived.Test.YtianabfehonliaaDoorArg
import Derived.Test.YtianabfehonliaaDoorMsg
namespace Go.Proofs.YtianabfehonliaaDoor
open Go.ChangeShapes Go.WideShapes Go.ChangeAt Go.RowKit Go.Joins Go.Deep

section
variable {H : Type} {enc : TypeId × Value → H} {W : World}
theorem Msg.rd (n : Nat) (cs' : List Value) (y : DataW H × List MemPlace) (hl : cs'.length = 3) (h : DataW.trod enc Tryd.prog W 0 (fun _ => true) true n 92 cs' = some y) :
    ∃ x : Msg, x.cells = cs' ∧ (x.f.size ≤ maxLen ∧ x.b.size ≤ maxLen) := by
  match cs', hl with
  | [c0, c1, c2], _ =>
    obtain ⟨xs, m, _, hx, _, hlen, hg⟩ := DataW.trod_struct Tryd.underlying92 h
    match xs, hlen with
    | [y0, y1, y2], _ =>
      have g0 : DataW.trod enc Tryd.prog W 0 (fun _ => true) true m 9 (List.take (Tryd.prog.cellsOf 9) (List.drop 0 [c0, c1, c2])) = some y0 := hg 0 _ rfl
      rw [show Tryd.prog.cellsOf 9 = 1 from by kernel_rfl] at g0
      have g1 : DataW.trod enc Tryd.prog W 0 (fun _ => true) true m 3 (List.take (Tryd.prog.cellsOf 3) (List.drop 1 [c0, c1, c2])) = some y1 := hg 1 _ rfl
      rw [show Tryd.prog.cellsOf 3 = 1 from by kernel_rfl] at g1
      have g2 : DataW.trod enc Tryd.prog W 0 (fun _ => true) true m 9 (List.take (Tryd.prog.cellsOf 9) (List.drop 2 [c0, c1, c2])) = some y2 := hg 2 _ rfl
      rw [show Tryd.prog.cellsOf 9 = 1 from by kernel_rfl] at g2
      obtain ⟨f, e0, _, hf⟩ := DataW.trod_string Tryd.underlying9 g0
      obtain ⟨n, e1, _, _⟩ := DataW.trod_int Tryd.underlying3 g1
      obtain ⟨b, e2, _, hb⟩ := DataW.trod_string Tryd.underlying9 g2
      simp at e0 e1 e2
      subst e0 e1 e2
      exact ⟨⟨f, n, b⟩, rfl, ⟨hf, hb⟩⟩
set_option maxRecDepth 100000 in
theorem Msg.opened {r : Reach} {b0 : Nat} {v : Value} {d : DataW H} {p : List MemPlace} (hv : Value.okWide Tryd.prog W r b0 92 v) (h : DataW.Trod enc Tryd.prog W 0 (fun _ => true) true 92 v d p) :
    ∃ x : Msg, v = .agg x.cells.toArray ∧ (x.f.size ≤ maxLen ∧ x.b.size ≤ maxLen) := by
  obtain ⟨cs, rfl, hsz⟩ := okWide_struct Tryd.underlying92 hv
  obtain ⟨fuel, hf⟩ := h
  have hC : Tryd.prog.cellsOf 92 = 3 := by kernel_rfl
  obtain ⟨x, hx, hg⟩ := Msg.rd fuel cs.toList _ (by rw [Array.length_toList]; exact hsz.trans hC) hf
  exact ⟨x, by rw [hx], hg⟩
set_option maxRecDepth 100000 in
theorem Msg.openedS {r : Reach} {b0 : Nat} {v : Value} {d : DataW H} {p : List MemPlace} (hv : Value.okWide Tryd.prog W r b0 29 v) (h : DataW.Trod enc Tryd.prog W 0 (fun _ => true) true 29 v d p) (hlt : ∀ x ∈ p, x.block < W.heap.size) (hnf : W.noneFrozen p) :
    ∃ (A : Option Addr) (c : Nat) (l : List Msg), v = .slice A l.length c ∧ l.length ≤ maxLen ∧ (∀ x ∈ l, x.f.size ≤ maxLen ∧ x.b.size ≤ maxLen) ∧ Msgs W 0 W.heap.size A l :=
  open_sl (fun x => x.f.size ≤ maxLen ∧ x.b.size ≤ maxLen) Tryd.underlying29 (by kernel_rfl) (by omega) Msg.len (fun n cs' y hl h => Msg.rd n cs' y hl h) hv h hlt hnf
end
end Go.Proofs.YtianabfehonliaaDoor

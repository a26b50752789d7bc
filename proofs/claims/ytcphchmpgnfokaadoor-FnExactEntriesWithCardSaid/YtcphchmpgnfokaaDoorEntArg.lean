/- Entries that come in as arguments, opened. No conditions. -/
import Derived.Test.YtcphchmpgnfokaaDoorArg
import Derived.Test.YtcphchmpgnfokaaDoorEnt
namespace Go.Proofs.YtcphchmpgnfokaaDoor
open Go.ChangeShapes Go.WideShapes Go.ChangeAt Go.RowKit Go.Joins Go.Deep

section
variable {H : Type} {enc : TypeId × Value → H} {W : World}
theorem Ent.rd (n : Nat) (cs' : List Value) (y : DataW H × List MemPlace) (hl : cs'.length = 4) (h : DataW.trod enc Tryd.prog W 0 (fun _ => true) true n 30 cs' = some y) :
    ∃ x : Ent, x.cells = cs' ∧ (x.t.size ≤ maxLen) := by
  match cs', hl with
  | [c0, c1, c2, c3], _ =>
    obtain ⟨xs, m, _, hx, _, hlen, hg⟩ := DataW.trod_struct Tryd.underlying30 h
    match xs, hlen with
    | [y0, y1, y2, y3], _ =>
      have g0 : DataW.trod enc Tryd.prog W 0 (fun _ => true) true m 3 (List.take (Tryd.prog.cellsOf 3) (List.drop 0 [c0, c1, c2, c3])) = some y0 := hg 0 _ rfl
      rw [show Tryd.prog.cellsOf 3 = 1 from by kernel_rfl] at g0
      have g1 : DataW.trod enc Tryd.prog W 0 (fun _ => true) true m 3 (List.take (Tryd.prog.cellsOf 3) (List.drop 1 [c0, c1, c2, c3])) = some y1 := hg 1 _ rfl
      rw [show Tryd.prog.cellsOf 3 = 1 from by kernel_rfl] at g1
      have g2 : DataW.trod enc Tryd.prog W 0 (fun _ => true) true m 3 (List.take (Tryd.prog.cellsOf 3) (List.drop 2 [c0, c1, c2, c3])) = some y2 := hg 2 _ rfl
      rw [show Tryd.prog.cellsOf 3 = 1 from by kernel_rfl] at g2
      have g3 : DataW.trod enc Tryd.prog W 0 (fun _ => true) true m 9 (List.take (Tryd.prog.cellsOf 9) (List.drop 3 [c0, c1, c2, c3])) = some y3 := hg 3 _ rfl
      rw [show Tryd.prog.cellsOf 9 = 1 from by kernel_rfl] at g3
      obtain ⟨r, e0, _, _⟩ := DataW.trod_int Tryd.underlying3 g0
      obtain ⟨n, e1, _, _⟩ := DataW.trod_int Tryd.underlying3 g1
      obtain ⟨m, e2, _, _⟩ := DataW.trod_int Tryd.underlying3 g2
      obtain ⟨t, e3, _, ht⟩ := DataW.trod_string Tryd.underlying9 g3
      simp at e0 e1 e2 e3
      subst e0 e1 e2 e3
      exact ⟨⟨r, n, m, t⟩, rfl, ht⟩
set_option maxRecDepth 100000 in
theorem Ent.opened {r : Reach} {b0 : Nat} {v : Value} {d : DataW H} {p : List MemPlace} (hv : Value.okWide Tryd.prog W r b0 30 v) (h : DataW.Trod enc Tryd.prog W 0 (fun _ => true) true 30 v d p) :
    ∃ x : Ent, v = .agg x.cells.toArray ∧ (x.t.size ≤ maxLen) := by
  obtain ⟨cs, rfl, hsz⟩ := okWide_struct Tryd.underlying30 hv
  obtain ⟨fuel, hf⟩ := h
  have hC : Tryd.prog.cellsOf 30 = 4 := by kernel_rfl
  obtain ⟨x, hx, hg⟩ := Ent.rd fuel cs.toList _ (by rw [Array.length_toList]; exact hsz.trans hC) hf
  exact ⟨x, by rw [hx], hg⟩
set_option maxRecDepth 100000 in
theorem Ent.openedS {r : Reach} {b0 : Nat} {v : Value} {d : DataW H} {p : List MemPlace} (hv : Value.okWide Tryd.prog W r b0 36 v) (h : DataW.Trod enc Tryd.prog W 0 (fun _ => true) true 36 v d p) (hlt : ∀ x ∈ p, x.block < W.heap.size) (hnf : W.noneFrozen p) :
    ∃ (A : Option Addr) (c : Nat) (l : List Ent), v = .slice A l.length c ∧ l.length ≤ maxLen ∧ (∀ x ∈ l, x.t.size ≤ maxLen) ∧ Ents W 0 W.heap.size A l :=
  open_sl (fun x => x.t.size ≤ maxLen) Tryd.underlying36 (by kernel_rfl) (by omega) Ent.len (fun n cs' y hl h => Ent.rd n cs' y hl h) hv h hlt hnf
end
end Go.Proofs.YtcphchmpgnfokaaDoor

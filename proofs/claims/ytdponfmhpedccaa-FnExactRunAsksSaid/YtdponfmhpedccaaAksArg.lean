/- Requests that come in as arguments, opened. No conditions. -/
import Derived.Test.YtdponfmhpedccaaArg
import Derived.Test.YtdponfmhpedccaaAks
namespace Go.Proofs.Ytdponfmhpedccaa
open Go.ChangeShapes Go.WideShapes Go.ChangeAt Go.RowKit Go.Joins Go.Deep

section
variable {H : Type} {enc : TypeId × Value → H} {W : World}
theorem Aks.rd (n : Nat) (cs' : List Value) (y : DataW H × List MemPlace) (hl : cs'.length = 3) (h : DataW.trod enc Try.prog W 0 (fun _ => true) true n 42 cs' = some y) :
    ∃ x : Aks, x.cells = cs' ∧ (True) := by
  match cs', hl with
  | [c0, c1, c2], _ =>
    obtain ⟨xs, m, _, hx, _, hlen, hg⟩ := DataW.trod_struct Try.underlying42 h
    match xs, hlen with
    | [y0, y1, y2], _ =>
      have g0 : DataW.trod enc Try.prog W 0 (fun _ => true) true m 3 (List.take (Try.prog.cellsOf 3) (List.drop 0 [c0, c1, c2])) = some y0 := hg 0 _ rfl
      rw [show Try.prog.cellsOf 3 = 1 from by kernel_rfl] at g0
      have g1 : DataW.trod enc Try.prog W 0 (fun _ => true) true m 3 (List.take (Try.prog.cellsOf 3) (List.drop 1 [c0, c1, c2])) = some y1 := hg 1 _ rfl
      rw [show Try.prog.cellsOf 3 = 1 from by kernel_rfl] at g1
      have g2 : DataW.trod enc Try.prog W 0 (fun _ => true) true m 3 (List.take (Try.prog.cellsOf 3) (List.drop 2 [c0, c1, c2])) = some y2 := hg 2 _ rfl
      rw [show Try.prog.cellsOf 3 = 1 from by kernel_rfl] at g2
      obtain ⟨m, e0, _, _⟩ := DataW.trod_int Try.underlying3 g0
      obtain ⟨r, e1, _, _⟩ := DataW.trod_int Try.underlying3 g1
      obtain ⟨k, e2, _, _⟩ := DataW.trod_int Try.underlying3 g2
      simp at e0 e1 e2
      subst e0 e1 e2
      exact ⟨⟨m, r, k⟩, rfl, trivial⟩
theorem Aks.opened {r : Reach} {b0 : Nat} {v : Value} {d : DataW H} {p : List MemPlace} (hv : Value.okWide Try.prog W r b0 42 v) (h : DataW.Trod enc Try.prog W 0 (fun _ => true) true 42 v d p) :
    ∃ x : Aks, v = .agg x.cells.toArray ∧ (True) := by
  obtain ⟨cs, rfl, hsz⟩ := okWide_struct Try.underlying42 hv
  obtain ⟨fuel, hf⟩ := h
  have hC : Try.prog.cellsOf 42 = 3 := by kernel_rfl
  obtain ⟨x, hx, hg⟩ := Aks.rd fuel cs.toList _ (by rw [Array.length_toList]; exact hsz.trans hC) hf
  exact ⟨x, by rw [hx], hg⟩
theorem Aks.openedS {r : Reach} {b0 : Nat} {v : Value} {d : DataW H} {p : List MemPlace} (hv : Value.okWide Try.prog W r b0 48 v) (h : DataW.Trod enc Try.prog W 0 (fun _ => true) true 48 v d p) (hlt : ∀ x ∈ p, x.block < W.heap.size) (hnf : W.noneFrozen p) :
    ∃ (A : Option Addr) (c : Nat) (l : List Aks), v = .slice A l.length c ∧ l.length ≤ maxLen ∧ (∀ x ∈ l, True) ∧ Akss W 0 W.heap.size A l :=
  open_sl (fun x => True) Try.underlying48 (by kernel_rfl) (by omega) Aks.len (fun n cs' y hl h => Aks.rd n cs' y hl h) hv h hlt hnf
end
end Go.Proofs.Ytdponfmhpedccaa

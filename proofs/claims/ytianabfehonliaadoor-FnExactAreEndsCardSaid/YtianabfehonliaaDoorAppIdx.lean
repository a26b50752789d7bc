/- Appliances: two compared; a list searched, copied. Condition of each: at most 2^20 elements. -/
import Derived.Test.YtianabfehonliaaDoorApp
import Derived.Test.YtianabfehonliaaDoorPost
import Derived.Shelf.Abstract
import Derived.BigQuiet
namespace Go.Proofs.YtianabfehonliaaDoor
open Go.RowKit

def App.eqB (x y : App) : Bool := decide (x.nm.toList = y.nm.toList) && decide (x.kd = y.kd) && decide (x.nd = y.nd) && decide (x.cw = y.cw) && decide (x.st = y.st)
theorem App.eqB_comm (x y : App) : App.eqB x y = App.eqB y x := by unfold App.eqB; simp only [eq_comm]
theorem App.eqB_iff {x y : App} : App.eqB x y = true ↔ x = y := by
  cases x; cases y
  simp only [App.eqB, Bool.and_eq_true, decide_eq_true_eq, App.mk.injEq]
  constructor
  · intro h
    simp only [and_assoc] at h
    obtain ⟨h0, h1, h2, h3, h4⟩ := h
    exact ⟨toList_inj h0, h1, h2, h3, h4⟩
  · intro h
    obtain ⟨h0, h1, h2, h3, h4⟩ := h
    subst h0 h1 h2 h3 h4
    simp
theorem App.eql (x y : App) (w : World) : (binOp .eql 75 (.agg #[.string x.nm, .int .i64 x.kd, .int .i64 x.nd, .int .i64 x.cw, .int .i64 x.st]) (.agg #[.string y.nm, .int .i64 y.kd, .int .i64 y.nd, .int .i64 y.cw, .int .i64 y.st])).run Tryd.prog w = .ok (.bool (App.eqB x y)) w := by
  go_simp
  by_cases q0 : x.nm.toList = y.nm.toList <;> by_cases q1 : x.kd = y.kd <;> by_cases q2 : x.nd = y.nd <;> by_cases q3 : x.cw = y.cw <;> by_cases q4 : x.st = y.st <;> simp [App.eqB, q0, q1, q2, q3, q4]
theorem App.one (x : App) : ∀ u ∈ x.cells, u.oneCell' = true := by
  intro u hu
  simp [App.cells] at hu
  rcases hu with rfl | rfl | rfl | rfl | rfl <;> rfl
/-- The predicate p, as the function value g with what it captured. -/
def App.Pred (g : FuncId) (lb : Array Value) (p : App → Bool) (lo hi : Nat) (l : List App) (w : World) : Prop :=
  ∀ (W : World) (x : App), x ∈ l → Fr lo hi w W → Calls Tryd.prog g (#[.agg #[.string x.nm, .int .i64 x.kd, .int .i64 x.nd, .int .i64 x.cw, .int .i64 x.st]] ++ lb) W fun e w' => e = .returned (.bool (p x)) ∧ Below W.heap.size W w'
end Go.Proofs.YtianabfehonliaaDoor

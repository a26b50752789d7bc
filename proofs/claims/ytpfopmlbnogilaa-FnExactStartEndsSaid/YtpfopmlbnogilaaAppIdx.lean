/- Appliances: two compared; a list searched, copied. Condition of each: at most 2^20 elements. -/
import Derived.Test.YtpfopmlbnogilaaApp
import Derived.Test.YtpfopmlbnogilaaPost
import Derived.Shelf.Abstract
import Derived.BigQuiet
namespace Go.Proofs.Ytpfopmlbnogilaa
open Go.RowKit

def App.eqB (x y : App) : Bool := decide (x.nm.toList = y.nm.toList) && decide (x.kd = y.kd) && decide (x.nd = y.nd) && decide (x.cw = y.cw) && decide (x.st = y.st)
theorem App.eqB_comm (x y : App) : App.eqB x y = App.eqB y x := by unfold App.eqB; simp only [eq_comm]
theorem App.eqB_iff {x y : App} : App.eqB x y = true ↔ x = y := by
  cases x; cases y
  simp only [App.eqB, Bool.and_eq_true, decide_eq_true_eq, App.mk.injEq]
  constructor
  · intro h
    simp only [and_assoc] at h
    obtain ⟨h0, h1, h2, h3, h4⟩ := h
    exact ⟨toList_inj h0, h1, h2, h3, h4⟩
  · intro h
    obtain ⟨h0, h1, h2, h3, h4⟩ := h
    subst h0 h1 h2 h3 h4
    simp
theorem App.eql (x y : App) (w : World) : (binOp .eql 101 (.agg #[.string x.nm, .int .i64 x.kd, .int .i64 x.nd, .int .i64 x.cw, .int .i64 x.st]) (.agg #[.string y.nm, .int .i64 y.kd, .int .i64 y.nd, .int .i64 y.cw, .int .i64 y.st])).run Try.prog w = .ok (.bool (App.eqB x y)) w := by
  go_simp
  by_cases q0 : x.nm.toList = y.nm.toList <;> by_cases q1 : x.kd = y.kd <;> by_cases q2 : x.nd = y.nd <;> by_cases q3 : x.cw = y.cw <;> by_cases q4 : x.st = y.st <;> simp [App.eqB, q0, q1, q2, q3, q4]
theorem App.one (x : App) : ∀ u ∈ x.cells, u.oneCell' = true := by
  intro u hu
  simp [App.cells] at hu
  rcases hu with rfl | rfl | rfl | rfl | rfl <;> rfl
/-- The predicate p, as the function value g with what it captured. -/
def App.Pred (g : FuncId) (lb : Array Value) (p : App → Bool) (lo hi : Nat) (l : List App) (w : World) : Prop :=
  ∀ (W : World) (x : App), x ∈ l → Fr lo hi w W → Calls Try.prog g (#[.agg #[.string x.nm, .int .i64 x.kd, .int .i64 x.nd, .int .i64 x.cw, .int .i64 x.st]] ++ lb) W fun e w' => e = .returned (.bool (p x)) ∧ Below W.heap.size W w'
theorem App.Clone_any (Al : Option Addr) (cl : Nat) (l : List App) (w : World) (hll : l.length ≤ 1048576) (hSl : Apps w 0 w.heap.size Al l) : Calls Try.prog 85 #[.slice Al l.length cl] w (RO1 App.cells 5 101 w l) := by
  obtain ⟨i0, hi0, hz0, hz1, hz2⟩ := info_parts App.info
  have qn : ∀ (w : World) (a : Option Addr) (n c n' c' : Nat), (binOp .eql 59 (.slice a n c) (.slice none n' c')).run Try.prog w = .ok (.bool a.isNone) w := fun w a n c n' c' => Lib.run_eql_slice_nil w _ _ a n c n' c' Try.underlying59
  cases Al with
  | none =>
    have hl0 := hSl.none_nil
    subst hl0
    go_enter Try.func85, Try.ntmps85
    go_wp2
    go_ret
    exact ⟨none, 0, rfl, Own.nil_, Below.refl _ _⟩
  | some ad =>
    go_enter Try.func85, Try.ntmps85
    go_wp2_with (at_builtin; refine wpList_append_all _ rfl (.tmp 5) (.tmp 6) _ rfl i0 _ _ Try.underlying59 hi0 hz0 hz1 hz2 rfl (by omega) App.len App.one (Own.empty w (Nat.le_refl _)) (hSl.alloc _) rfl rfl (by unfold maxLen; first | omega | (simp; omega)) (by first | omega | (simp; omega)) (by first | exact Nat.le_refl _ | (simp; done) | omega) ?_; intro A' c' w1 L hL hO hB; have hB1 : Below w.heap.size w w1 := Below.trans (by go_grown) hB)
    clear hi0 hz0 hz1 hz2 hB qn
    go_ret
    obtain rfl : L = l := hL.out
    exact ⟨A', c', rfl, hO, hB1⟩
end Go.Proofs.Ytpfopmlbnogilaa

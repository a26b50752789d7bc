/- Bytes that come in as an argument, and the cursor that a drawing function lays over them. No conditions. -/
import Derived.Test.YtjmjilkpckbpeaaGreatDoorLA
import Derived.Test.YtjmjilkpckbpeaaGreatDoorCur
namespace Go.Proofs.YtjmjilkpckbpeaaGreatDoor
open Go.ChangeShapes Go.WideShapes Go.ChangeAt Go.RowKit Go.Joins Go.Deep

section
variable {H : Type} {enc : TypeId × Value → H} {W : World}
theorem Byt.rd (n : Nat) (cs' : List Value) (y : DataW H × List MemPlace) (hl : cs'.length = 1) (h : DataW.trod enc Tryz.prog W 0 (fun _ => true) true n 5 cs' = some y) :
    ∃ x : Int, byE x = cs' ∧ (0 ≤ x ∧ x ≤ 255) := by
  match cs', hl with
  | [c0], _ =>
    obtain ⟨x, e0, _, hw⟩ := DataW.trod_int Tryz.underlying5 h
    simp at e0
    subst e0
    have h1 : (decide (IntKind.u8.min ≤ x) && decide (x ≤ IntKind.u8.max)) = true := hw
    have h2 : IntKind.u8.min = 0 := by decide
    have h3 : IntKind.u8.max = 255 := by decide
    rw [h2, h3, Bool.and_eq_true, decide_eq_true_eq, decide_eq_true_eq] at h1
    exact ⟨x, rfl, h1⟩
set_option maxRecDepth 100000 in
theorem Byt.openedS {r : Reach} {b0 : Nat} {v : Value} {d : DataW H} {p : List MemPlace} (hv : Value.okWide Tryz.prog W r b0 22 v) (h : DataW.Trod enc Tryz.prog W 0 (fun _ => true) true 22 v d p) (hlt : ∀ x ∈ p, x.block < W.heap.size) (hnf : W.noneFrozen p) :
    ∃ (A : Option Addr) (c : Nat) (l : List Int), v = .slice A l.length c ∧ l.length ≤ maxLen ∧ (∀ x ∈ l, 0 ≤ x ∧ x ≤ 255) ∧ Sl byE 1 W 0 W.heap.size A l :=
  open_sl (fun x => 0 ≤ x ∧ x ≤ 255) Tryz.underlying22 (by kernel_rfl) (by omega) byE_len (fun n cs' y hl h => Byt.rd n cs' y hl h) hv h hlt hnf
end
theorem Cur.new (w : World) (A : Option Addr) (c : Nat) (l : List Int) (T : TypeId) (n : Nat) (hn : n = w.heap.size) (hS : Sl byE 1 w 0 w.heap.size A l) (hb : ∀ x ∈ l, 0 ≤ x ∧ x ≤ 255) (hl : l.length ≤ maxLen) :
    Cur n A c l 0 (w.alloc (.cells #[.slice A l.length c, .int .i64 0, .int .u64 0] T)) := by
  subst hn
  refine ⟨⟨0, 0, ?_, ?_, ?_, World.frozen?_alloc_at _ _ _ _ rfl, World.frozen?_alloc_at _ _ _ _ rfl, Nat.le_refl _, Int.le_refl _, by decide⟩, hS.alloc _, hb, hl⟩
  · rw [World.cell?_alloc_at _ _ _ _ rfl]; rfl
  · rw [World.cell?_alloc_at _ _ _ _ rfl]; rfl
  · rw [World.cell?_alloc_at _ _ _ _ rfl]; rfl
end Go.Proofs.YtjmjilkpckbpeaaGreatDoor

/- Lists of entries in memory as the great laws hold them; the bound on the input. No conditions. -/
import Derived.Test.YtmdmcjhodhphgaaGreatDoorEnt
import Derived.Test.YtmdmcjhodhphgaaGreatDoorCur
import Derived.Test.YtmdmcjhodhphgaaGreatDoorPost
namespace Go.Proofs.YtmdmcjhodhphgaaGreatDoor
open Go.RowKit

def LM (W : World) (B : Option Addr) (d : Nat) (L : List Ent) : Prop := L.length ≤ 1048576 ∧ L.length ≤ d ∧ (∀ x ∈ L, x.t.size ≤ 1048576) ∧ Ents W 0 W.heap.size B L
theorem LM.below {W w' : World} {B : Option Addr} {d : Nat} {L : List Ent} (h : LM W B d L) (hb : Below W.heap.size W w') : LM w' B d L := ⟨h.1, h.2.1, h.2.2.1, (h.2.2.2.below hb).all⟩
theorem LM.alloc {W : World} {B : Option Addr} {d : Nat} {L : List Ent} (h : LM W B d L) (o : Obj) : LM (W.alloc o) B d L := h.below ((Below.refl _ _).alloc (Nat.le_refl _) o)
theorem LM.big {W : World} {B : Option Addr} {d : Nat} {L : List Ent} (h : LM W B d L) : L.length ≤ maxLen ∧ (∀ x ∈ L, x.t.size ≤ maxLen) := ⟨Nat.le_trans h.1 (by unfold maxLen; omega), fun x hx => Nat.le_trans (h.2.2.1 x hx) (by unfold maxLen; omega)⟩
def AnyB (W : World) (e : Ending) (w' : World) : Prop := ∃ v : Bool, e = .returned (.bool v) ∧ Below W.heap.size W w'
theorem big_any (A B : Option Addr) (c d : Nat) (l m : List Int) (W : World) (hl : l.length ≤ maxLen) (_hm : m.length ≤ maxLen) :
    Calls Tryz.prog 5 #[.slice A l.length c, .slice B m.length d] W (AnyB W) := by
  unfold maxLen at hl
  by_cases h : 1048576 < l.length
  · have h' : (1048576 : Int) < l.length := by omega
    go_enter Tryz.func5, Tryz.ntmps5
    go_wp2
    go_ret
    exact ⟨_, rfl, by go_grown⟩
  · have h' : ¬ (1048576 : Int) < l.length := by omega
    go_enter Tryz.func5, Tryz.ntmps5
    go_wp2
    go_ret
    exact ⟨_, rfl, by go_grown⟩
end Go.Proofs.YtmdmcjhodhphgaaGreatDoor

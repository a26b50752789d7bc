/- Whether one log is a beginning of another: the functions above the loops. Conditions as in Log. -/
import Derived.Test.YtbddghbcgolbnaaBegin
namespace Go.Proofs.Ytbddghbcgolbnaa
open Go.RowKit

theorem Equal_take (A B : Option Addr) (c d : Nat) (a b : List Ent) (w : World) (hl : a.length ≤ maxLen) (hS : Ents w 0 w.heap.size A a) (hS2 : Ents w 0 w.heap.size B b) (h : a.length ≤ b.length) :
    Calls Try.prog 65 #[.slice A a.length c, .slice B a.length d] w (RV w (.bool (begF a b))) := by
  have e : (b.take a.length).length = a.length := by simp; omega
  have := Equal_any A B c d a (b.take a.length) w hl hS (by omega) (hS2.take _)
  rw [e, begF_take] at this
  simpa using this
set_option maxHeartbeats 400000 in
theorem isBeginning_any (A B : Option Addr) (c d : Nat) (a b : List Ent) (w : World) (hl : a.length ≤ maxLen) (hS : Ents w 0 w.heap.size A a) (_hl2 : b.length ≤ maxLen) (hS2 : Ents w 0 w.heap.size B b) (hd : b.length ≤ d) :
    Calls Try.prog 54 #[.slice A a.length c, .slice B b.length d] w (RV w (.bool (begF a b))) := by
  have hl' := hl
  unfold maxLen at hl
  go_enter Try.func54, Try.ntmps54
  by_cases hab : a.length ≤ b.length
  · have hab2 : (a.length : Int) ≤ b.length := by omega
    have hab3 : (a.length : Int) ≤ d := by omega
    go_wp2_with fail
    refine (Equal_take A B c _ a b _ hl' hS hS2 hab).mono ?_
    rintro e w1 ⟨rfl, hb⟩
    have hB : Below w.heap.size w w1 := Below.on' (by go_grown) hb
    go_wp2
    go_ret
    exact RV.mk rfl hB
  · have HN : Hid (begF a b = false) := Lib.hid (begF_len (by omega))
    have hab2 : ¬ (a.length : Int) ≤ b.length := by omega
    go_wp2
    go_ret
    exact RV.mk (by rw [HN.out]; rfl) (Below.refl _ _)
end Go.Proofs.Ytbddghbcgolbnaa

/- Whether one log is a beginning of another: the functions above the loops. Conditions as in Log. -/
import Derived.Test.YtmdmcjhodhphgaaGreatBegin
namespace Go.Proofs.YtmdmcjhodhphgaaGreat
open Go.RowKit

theorem Equal_take (A B : Option Addr) (c d : Nat) (a b : List Ent) (w : World) (hl : a.length ≤ maxLen) (hS : Ents w 0 w.heap.size A a) (hS2 : Ents w 0 w.heap.size B b) (h : a.length ≤ b.length) :
    Calls Tryz.prog 58 #[.slice A a.length c, .slice B a.length d] w (RV w (.bool (begF a b))) := by
  have e : (b.take a.length).length = a.length := by simp; omega
  have := Equal_any A B c d a (b.take a.length) w hl hS (by omega) (hS2.take _)
  rw [e, begF_take] at this
  simpa using this
set_option maxHeartbeats 400000 in
theorem isBeginning_any (A B : Option Addr) (c d : Nat) (a b : List Ent) (w : World) (hl : a.length ≤ maxLen) (hS : Ents w 0 w.heap.size A a) (_hl2 : b.length ≤ maxLen) (hS2 : Ents w 0 w.heap.size B b) (hd : b.length ≤ d) :
    Calls Tryz.prog 33 #[.slice A a.length c, .slice B b.length d] w (RV w (.bool (begF a b))) := by
  have hl' := hl
  unfold maxLen at hl
  go_enter Tryz.func33, Tryz.ntmps33
  by_cases hab : a.length ≤ b.length
  · have hab2 : (a.length : Int) ≤ b.length := by omega
    have hab3 : (a.length : Int) ≤ d := by omega
    go_wp2_with fail
    refine (Equal_take A B c _ a b _ hl' hS hS2 hab).mono ?_
    rintro e w1 ⟨rfl, hb⟩
    have hB : Below w.heap.size w w1 := Below.on' (by go_grown) hb
    go_wp2
    go_ret
    exact RV.mk rfl hB
  · have HN : Hid (begF a b = false) := Lib.hid (begF_len (by omega))
    have hab2 : ¬ (a.length : Int) ≤ b.length := by omega
    go_wp2
    go_ret
    exact RV.mk (by rw [HN.out]; rfl) (Below.refl _ _)
set_option maxHeartbeats 1000000 in
theorem IsBeginning_spec (A B : Option Addr) (c d : Nat) (a b : List Ent) (w : World) (hl : a.length ≤ maxLen) (hm : ∀ x ∈ a, x.t.size ≤ maxLen) (hS : Ents w 0 w.heap.size A a) (hl2 : b.length ≤ maxLen) (hm2 : ∀ x ∈ b, x.t.size ≤ maxLen) (hS2 : Ents w 0 w.heap.size B b) :
    Calls Tryz.prog 15 #[.slice A a.length c, .slice B b.length d] w (RV w (.tuple #[.bool (twoB a b && begF a b), .bool (twoB a b)])) := by
  go_enter Tryz.func15, Tryz.ntmps15
  go_wp2_with fail
  refine (mgTwo_any A B c d a b _ hl hm hS hl2 hm2 hS2).mono ?_
  rintro e w1 ⟨rfl, hb⟩
  have hB1 : Below w.heap.size w w1 := Below.on' (by go_grown) hb
  clear hb
  by_cases hg : twoB a b = true
  rotate_left
  · have hg : twoB a b = false := by simpa using hg
    go_wp2
    go_ret2
    exact RV.mk (by rw [hg]; rfl) hB1
  go_wp2_with fail
  refine (mgBegins_any A B c d a b _ hl ((hS.below hB1).mono (Nat.le_refl _) hB1.size (Nat.le_refl _)) hl2 ((hS2.below hB1).mono (Nat.le_refl _) hB1.size (Nat.le_refl _))).mono ?_
  rintro e w2 ⟨rfl, hb⟩
  have hB2 : Below w.heap.size w w2 := Below.on' hB1 hb
  go_wp2
  go_ret2
  exact RV.mk (by rw [hg]; rfl) hB2
set_option maxHeartbeats 1000000 in
theorem IsBeginning_impl (A B : Option Addr) (c d : Nat) (a b : List Ent) (w : World) (hl : a.length ≤ maxLen) (hm : ∀ x ∈ a, x.t.size ≤ maxLen) (hS : Ents w 0 w.heap.size A a) (hl2 : b.length ≤ maxLen) (hm2 : ∀ x ∈ b, x.t.size ≤ maxLen) (hS2 : Ents w 0 w.heap.size B b) (hd : b.length ≤ d) :
    Calls Tryz.prog 12 #[.slice A a.length c, .slice B b.length d] w (RV w (.tuple #[.bool (twoB a b && begF a b), .bool (twoB a b)])) := by
  go_enter Tryz.func12, Tryz.ntmps12
  go_wp2_with fail
  refine (isLog_any A c a _ hl hm hS).mono ?_
  rintro e w0 ⟨rfl, hb⟩
  have hB0 : Below w.heap.size w w0 := Below.on' (by go_grown) hb
  clear hb
  by_cases g1 : logB a = true
  rotate_left
  · have g1 : logB a = false := by simpa using g1
    have HN : Hid (twoB a b = false) := Lib.hid (by simp [twoB, g1])
    go_wp2
    go_ret2
    exact RV.mk (by rw [HN.out]; rfl) hB0
  go_wp2_with fail
  refine (isLog_any B d b _ hl2 hm2 ((hS2.below hB0).mono (Nat.le_refl _) hB0.size (Nat.le_refl _))).mono ?_
  rintro e w1 ⟨rfl, hb⟩
  have hB1 : Below w.heap.size w w1 := Below.on' hB0 hb
  clear hb
  by_cases g2 : logB b = true
  rotate_left
  · have g2 : logB b = false := by simpa using g2
    have HN : Hid (twoB a b = false) := Lib.hid (by simp [twoB, g2])
    go_wp2
    go_ret2
    exact RV.mk (by rw [HN.out]; rfl) hB1
  have HY : Hid (twoB a b = true) := Lib.hid (by simp [twoB, g1, g2])
  go_wp2_with fail
  refine (isBeginning_any A B c d a b _ hl ((hS.below hB1).mono (Nat.le_refl _) hB1.size (Nat.le_refl _)) hl2 ((hS2.below hB1).mono (Nat.le_refl _) hB1.size (Nat.le_refl _)) hd).mono ?_
  rintro e w2 ⟨rfl, hb⟩
  have hB2 : Below w.heap.size w w2 := Below.on' hB1 hb
  go_wp2
  go_ret2
  exact RV.mk (by rw [HY.out]; rfl) hB2
end Go.Proofs.YtmdmcjhodhphgaaGreat

/- Requests: two compared; a list searched, copied. Condition of each: at most 2^20 elements. -/
import Derived.Test.YtdponfmhpedccaaAks
import Derived.Test.YtdponfmhpedccaaPost
import Derived.Shelf.Abstract
import Derived.BigQuiet
namespace Go.Proofs.Ytdponfmhpedccaa
open Go.RowKit

def Aks.eqB (x y : Aks) : Bool := decide (x.m = y.m) && decide (x.r = y.r) && decide (x.k = y.k)
theorem Aks.eqB_comm (x y : Aks) : Aks.eqB x y = Aks.eqB y x := by unfold Aks.eqB; simp only [eq_comm]
theorem Aks.eqB_iff {x y : Aks} : Aks.eqB x y = true ↔ x = y := by
  cases x; cases y
  simp only [Aks.eqB, Bool.and_eq_true, decide_eq_true_eq, Aks.mk.injEq]
  constructor
  · intro h
    simp only [and_assoc] at h
    obtain ⟨h0, h1, h2⟩ := h
    exact ⟨h0, h1, h2⟩
  · intro h
    obtain ⟨h0, h1, h2⟩ := h
    subst h0 h1 h2
    simp
theorem Aks.eql (x y : Aks) (w : World) : (binOp .eql 45 (.agg #[.int .i64 x.m, .int .i64 x.r, .int .i64 x.k]) (.agg #[.int .i64 y.m, .int .i64 y.r, .int .i64 y.k])).run Try.prog w = .ok (.bool (Aks.eqB x y)) w := by
  go_simp
  by_cases q0 : x.m = y.m <;> by_cases q1 : x.r = y.r <;> by_cases q2 : x.k = y.k <;> simp [Aks.eqB, q0, q1, q2]
theorem Aks.one (x : Aks) : ∀ u ∈ x.cells, u.oneCell' = true := by
  intro u hu
  simp [Aks.cells] at hu
  rcases hu with rfl | rfl | rfl <;> rfl
/-- The predicate p, as the function value g with what it captured. -/
def Aks.Pred (g : FuncId) (lb : Array Value) (p : Aks → Bool) (lo hi : Nat) (l : List Aks) (w : World) : Prop :=
  ∀ (W : World) (x : Aks), x ∈ l → Fr lo hi w W → Calls Try.prog g (#[.agg #[.int .i64 x.m, .int .i64 x.r, .int .i64 x.k]] ++ lb) W fun e w' => e = .returned (.bool (p x)) ∧ Below W.heap.size W w'
set_option maxHeartbeats 1000000 in
theorem Aks.IndexFunc_any (g : FuncId) (lb : Array Value) (p : Aks → Bool) (A : Option Addr) (c lo hi lo' hi' : Nat) (l : List Aks) (w : World) (eg : Enters g) (hl : l.length ≤ 1048576) (hS : Akss w lo hi A l) (hp : Aks.Pred g lb p lo' hi' l w) :
    Calls Try.prog 76 #[.slice A l.length c, .func (.func g) #[] lb] w (RV w (.int .i64 (idxG p l 0))) := by
  have eg' : ∀ args w, (callFunc g args).run Try.prog w = .ok (.enter g args) w := eg
  go_enter Try.func76, Try.ntmps76
  go_wp2_with fail
  go_loopw [8] (fun i wr => ∃ k : Nat, k ≤ l.length ∧ i = .int .i64 k ∧ Hid (idxG p (l.drop k) k = idxG p l 0) ∧ Below w.heap.size w wr) (fun i _ => l.length - (intOf i).toNat)
  case atStart => exact ⟨0, Nat.zero_le _, rfl, rfl, Below.refl _ _⟩
  case round =>
    obtain ⟨k, hk, rfl, HF, hB⟩ := hrel
    by_cases hlt : k < l.length
    · obtain ⟨x, hx, hx2⟩ := get_lt hlt
      have HC := Lib.hid (idxG_step (p := p) hx)
      obtain ⟨b, off, rfl, _, _, _, hf⟩ := (hS.below hB).at_ hx
      have c0 : wr.cell? ⟨b, off + k * 3, none⟩ = some (.int .i64 x.m) := (hf 0 _ rfl).1
      have c1 : wr.cell? ⟨b, off + k * 3 + 1, none⟩ = some (.int .i64 x.r) := (hf 1 _ rfl).1
      have c2 : wr.cell? ⟨b, off + k * 3 + 2, none⟩ = some (.int .i64 x.k) := (hf 2 _ rfl).1
      have hcall := hp wr x hx2 ⟨hB.os, hB.tape, hB.output, hB.size, fun b hb _ => hB.block b hb⟩
      clear hf hx hx2
      cases hq : p x with
      | true =>
        have HQ := Lib.hid (HC.out.trans (if_pos hq))
        rw [hq] at hcall
        clear HC hq
        go_wp2_with (go_at_fn g; refine hcall.mono ?_; rintro e w1 ⟨rfl, hb⟩)
        go_ret
        exact RV.mk (by rw [← HF.out, HQ.out]; rfl) (Below.on' hB hb)
      | false =>
        have HQ := Lib.hid (HC.out.trans (if_neg (by rw [hq]; exact Bool.false_ne_true)))
        rw [hq] at hcall
        clear HC hq
        go_wp2_with (go_at_fn g; refine hcall.mono ?_; rintro e w1 ⟨rfl, hb⟩)
        have hB1 := Below.on' hB hb
        go_roundw
        case rel => exact ⟨k + 1, by omega, by go_num, Lib.hid (HQ.out.symm.trans HF.out), hB1⟩
        case measure => simp [intOf]; omega
    · have hd : l.drop k = [] := List.drop_of_length_le (by omega)
      have HE : Hid ((-1 : Int) = idxG p l 0) := Lib.hid (by have := HF.out; rw [hd] at this; exact this)
      clear hd HF
      go_wp2
      go_ret
      exact RV.mk (by rw [← HE.out]; rfl) hB
set_option maxHeartbeats 1000000 in
theorem Aks.ContainsFunc_any (g : FuncId) (lb : Array Value) (p : Aks → Bool) (A : Option Addr) (c lo hi lo' hi' : Nat) (l : List Aks) (w : World) (eg : Enters g) (hl : l.length ≤ 1048576) (hS : Akss w lo hi A l) (hp : Aks.Pred g lb p lo' hi' l w) :
    Calls Try.prog 74 #[.slice A l.length c, .func (.func g) #[] lb] w (RV w (.bool (l.any p))) := by
  have HM := Lib.hid (idxG_any p l)
  go_enter Try.func74, Try.ntmps74
  go_wp2_with fail
  refine (Aks.IndexFunc_any g lb p A c lo hi lo' hi' l _ eg hl hS hp).mono ?_
  rintro e w1 ⟨rfl, hb⟩
  have hB : Below w.heap.size w w1 := Below.on' (by go_grown) hb
  go_wp2
  all_goals go_ret
  all_goals exact RV.mk (by rw [← HM.out]; first | rfl | (simp; done) | skip) hB
end Go.Proofs.Ytdponfmhpedccaa

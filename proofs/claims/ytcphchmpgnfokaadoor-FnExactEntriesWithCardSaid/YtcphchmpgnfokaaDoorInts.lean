/- Lists of plain elements (int) in memory: comparing, marking. Condition: the numbers of the marks lie in 1 .. 99999999. -/
import Derived.Test.YtcphchmpgnfokaaDoorOwn
import Derived.Test.YtcphchmpgnfokaaDoorMark
import Derived.BigQuiet
namespace Go.Proofs.YtcphchmpgnfokaaDoor
open Go.RowKit

def Ints.cells (x : Int) : List Value := [.int .i64 (x)]
theorem Ints.len (x : Int) : (Ints.cells x).length = 1 := rfl
abbrev Ints (w : World) (lo hi : Nat) (A : Option Addr) (l : List Int) : Prop := Sl Ints.cells 1 w lo hi A l
theorem Ints.one (x : Int) : ∀ u ∈ Ints.cells x, u.oneCell' = true := by intro u hu; simp [Ints.cells] at hu; subst hu; rfl
theorem Ints.info : (Tryd.prog.info? 3).map (fun i => (i.zero, i.size, i.bytes)) = some (some (.int .i64 0), 1, 8) := by kernel_rfl
theorem Ints.at1 {w : World} {lo hi : Nat} {A : Option Addr} {l : List Int} (h : Ints w lo hi A l) {i : Nat} {x : Int} (hx : l[i]? = some x) : ∃ b off, A = some ⟨b, off, none⟩ ∧ lo ≤ b ∧ b < hi ∧ hi ≤ w.heap.size ∧ w.cell? ⟨b, off + i, none⟩ = some (.int .i64 (x)) ∧ w.frozen? ⟨b, off + i, none⟩ = false := by
  obtain ⟨b, off, e, h1, h2, h3, hf⟩ := h.at_ hx
  have := hf 0 _ rfl
  rw [Nat.mul_one] at this
  exact ⟨b, off, e, h1, h2, h3, this.1, this.2⟩
def Ints.mk1 (k : Int) : Int := k
def Ints.mkL (k : Int) : Nat → List Int
  | 0 => []
  | n + 1 => Ints.mkL k n ++ [Ints.mk1 (k + n)]
theorem Ints.mkL_len (k : Int) : ∀ n, (Ints.mkL k n).length = n
  | 0 => rfl
  | n + 1 => by simp [Ints.mkL, Ints.mkL_len k n]
theorem Ints.mkL_at {k : Int} : ∀ {n q : Nat}, q < n → (Ints.mkL k n)[q]? = some (Ints.mk1 (k + q))
  | 0, q, h => by omega
  | n + 1, q, h => by
    rw [Ints.mkL]
    by_cases hq : q < n
    · rw [List.getElem?_append_left (by rw [Ints.mkL_len]; exact hq)]; exact Ints.mkL_at hq
    · obtain rfl : q = n := by omega
      rw [List.getElem?_append_right (by rw [Ints.mkL_len]; omega), Ints.mkL_len]; simp
theorem Ints.mkL_set {k : Int} {l : List Int} {q : Nat} {x : Int} (hx : l[q]? = some x) : (Ints.mkL k q ++ l.drop q)[q]? = some x ∧ (Ints.mkL k q ++ l.drop q).set q (Ints.mk1 (k + q)) = Ints.mkL k (q + 1) ++ l.drop (q + 1) := by
  obtain ⟨hq, rfl⟩ := List.getElem?_eq_some_iff.1 hx
  constructor
  · rw [List.getElem?_append_right (by rw [Ints.mkL_len]; omega), Ints.mkL_len]; simp [hq]
  · rw [List.set_append_right _ _ (by rw [Ints.mkL_len]; omega), Ints.mkL_len, Nat.sub_self, List.drop_eq_getElem_cons hq, List.set_cons_zero, Ints.mkL, List.append_assoc]; rfl

set_option maxHeartbeats 800000 in
theorem eqIntS_same (A A' : Option Addr) (c c' lo hi lo' hi' : Nat) (l : List Int) (w : World) (hl : l.length ≤ 1048576) (hS : Ints w lo hi A l) (hS' : Ints w lo' hi' A' l) :
    Calls Tryd.prog 31 #[.slice A l.length c, .slice A' l.length c'] w (RV w (.bool true)) := by
  go_enter Tryd.func31, Tryd.ntmps31
  go_wp2
  go_loopw [5] (fun i wr => ∃ q : Nat, q ≤ l.length ∧ i = .int .i64 q ∧ Below w.heap.size w wr) (fun i _ => l.length - (intOf i).toNat)
  case atStart => exact ⟨0, Nat.zero_le _, rfl, Below.refl _ _⟩
  case round =>
    obtain ⟨q, hq, rfl, hB⟩ := hrel
    by_cases hlt : q < l.length
    · obtain ⟨x, hx1, hx2⟩ := get_lt hlt
      obtain ⟨b, off, rfl, _, _, _, c0, _⟩ := Ints.at1 (hS.below hB) hx1
      obtain ⟨b', off', rfl, _, _, _, d0, _⟩ := Ints.at1 (hS'.below hB) hx1
      clear hx1
      go_wp2_with fail
      go_quiet (fail)
      have hBq : Below w.heap.size w (wr.drewN nq) := ⟨hB.os, hB.tape, hB.output, hB.size, hB.block⟩
      clear c0 d0
      go_wp2
      go_roundw
      case rel => exact ⟨q + 1, by omega, by go_num, hBq⟩
      case measure => simp [intOf]; omega
    · go_wp2
      go_ret
      exact RV.mk rfl hB
set_option maxHeartbeats 1000000 in
theorem markIntS_any (A : Option Addr) (c lo hi : Nat) (l : List Int) (k : Int) (w : World) (hl : l.length ≤ 1048576) (hk0 : 1 ≤ k) (hk1 : k ≤ 50000000) (hS : Ints w lo hi A l) :
    Calls Tryd.prog 33 #[.slice A l.length c, .int .i64 k] w fun e w' => e = .returned (.int .i64 (k + l.length)) ∧ Ints w' lo hi A (Ints.mkL k l.length) ∧ Fr lo hi w w' := by
  go_enter Tryd.func33, Tryd.ntmps33
  go_wp2
  go_loopw [1, 5] (fun v i wr => ∃ (q : Nat) (kk : Int), q ≤ l.length ∧ i = .int .i64 q ∧ v = .int .i64 kk ∧ 1 ≤ kk ∧ kk ≤ k + q ∧ Hid (kk = k + q) ∧ Ints wr lo hi A (Ints.mkL k q ++ l.drop q) ∧ Fr lo hi w wr) (fun _ i _ => l.length - (intOf i).toNat)
  case atStart => exact ⟨0, k, Nat.zero_le _, rfl, rfl, hk0, by omega, Lib.hid (by omega), by simpa [Ints.mkL] using hS, Fr.refl _ _ _⟩
  case round =>
    obtain ⟨q, kk, hq, rfl, rfl, hkk0, hkk1, HK, hT, hB⟩ := hrel
    by_cases hlt : q < l.length
    · obtain ⟨x, hx1, _⟩ := get_lt hlt
      obtain ⟨hx0, HL⟩ := Ints.mkL_set (k := k) hx1
      replace HL := Lib.hid HL
      obtain ⟨b, off, rfl, hlo, hhi, _, c0, f0⟩ := Ints.at1 hT hx0
      go_wp2
      go_roundw
      case rel =>
        have s0 := Sl.set1 (i := q) (j := 0) (y := Ints.mk1 kk) (u := .int .i64 (kk)) hT hx0 Ints.len (by omega) rfl
        have g0 := Fr.setCell hB (p := ⟨b, off + q * 1 + 0, none⟩) ⟨hlo, hhi⟩ (.int .i64 (kk))
        rw [Nat.mul_one, Nat.add_zero] at s0 g0
        refine ⟨q + 1, kk + 1, by omega, by go_num, by go_num, by omega, by omega, Lib.hid (by have := HK.out; omega), ?_, g0⟩
        have hL := HL.out
        rw [← hL, ← HK.out]
        exact s0
      case measure => simp [intOf]; omega
    · have hqe : q = l.length := by omega
      subst hqe
      have hk2 : kk = k + l.length := HK.out
      subst hk2
      go_wp2
      go_ret
      refine ⟨rfl, ?_, hB⟩
      simpa using hT
set_option maxHeartbeats 4000000 in
theorem heldIntS_any (A : Option Addr) (c lo hi n : Nat) (k : Int) (w : World) (hl : n ≤ 1048576) (hk0 : 1 ≤ k) (hk1 : k ≤ 50000000) (hS : Ints w lo hi A (Ints.mkL k n)) :
    Calls Tryd.prog 34 #[.slice A n c, .int .i64 k] w (RV w (.int .i64 (k + n))) := by
  go_enter Tryd.func34, Tryd.ntmps34
  go_wp2
  go_loopw [1, 5] (fun v i wr => ∃ (q : Nat) (kk : Int), q ≤ n ∧ i = .int .i64 q ∧ v = .int .i64 kk ∧ 1 ≤ kk ∧ kk ≤ k + q ∧ Hid (kk = k + q) ∧ Below w.heap.size w wr) (fun _ i _ => n - (intOf i).toNat)
  case atStart => exact ⟨0, k, Nat.zero_le _, rfl, rfl, hk0, by omega, Lib.hid (by omega), Below.refl _ _⟩
  case round =>
    obtain ⟨q, kk, hq, rfl, rfl, hkk0, hkk1, HK, hB⟩ := hrel
    by_cases hlt : q < n
    · have hx0 := Ints.mkL_at (k := k) hlt
      rw [← HK.out] at hx0
      obtain ⟨b, off, rfl, _, _, _, c0', _⟩ := Ints.at1 (hS.below hB) hx0
      have c0 : wr.cell? ⟨b, off + q, none⟩ = some (.int .i64 (kk)) := c0'
      clear hx0 c0'
      have hBc := hB
      clear hB
      go_wp2
      go_roundw
      case rel => exact ⟨q + 1, kk + 1, by omega, by go_num, by go_num, by omega, by omega, Lib.hid (by have := HK.out; omega), by go_grown⟩
      case measure => simp [intOf]; omega
    · have hqe : q = n := by omega
      subst hqe
      have hk2 : kk = k + q := HK.out
      subst hk2
      go_wp2
      go_ret
      exact ⟨rfl, hB⟩
end Go.Proofs.YtcphchmpgnfokaaDoor

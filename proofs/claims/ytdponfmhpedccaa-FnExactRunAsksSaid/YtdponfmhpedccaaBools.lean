/- Lists of plain elements (bool) in memory: comparing, marking. Condition: the numbers of the marks lie in 1 .. 99999999. -/
import Derived.Test.YtdponfmhpedccaaOwn
import Derived.Test.YtdponfmhpedccaaMark
import Derived.BigQuiet
namespace Go.Proofs.Ytdponfmhpedccaa
open Go.RowKit

def Bools.cells (x : Bool) : List Value := [.bool (x)]
theorem Bools.len (x : Bool) : (Bools.cells x).length = 1 := rfl
abbrev Bools (w : World) (lo hi : Nat) (A : Option Addr) (l : List Bool) : Prop := Sl Bools.cells 1 w lo hi A l
theorem Bools.one (x : Bool) : ∀ u ∈ Bools.cells x, u.oneCell' = true := by intro u hu; simp [Bools.cells] at hu; subst hu; rfl
theorem Bools.info : (Try.prog.info? 4).map (fun i => (i.zero, i.size, i.bytes)) = some (some (.bool false), 1, 1) := by kernel_rfl
theorem Bools.at1 {w : World} {lo hi : Nat} {A : Option Addr} {l : List Bool} (h : Bools w lo hi A l) {i : Nat} {x : Bool} (hx : l[i]? = some x) : ∃ b off, A = some ⟨b, off, none⟩ ∧ lo ≤ b ∧ b < hi ∧ hi ≤ w.heap.size ∧ w.cell? ⟨b, off + i, none⟩ = some (.bool (x)) ∧ w.frozen? ⟨b, off + i, none⟩ = false := by
  obtain ⟨b, off, e, h1, h2, h3, hf⟩ := h.at_ hx
  have := hf 0 _ rfl
  rw [Nat.mul_one] at this
  exact ⟨b, off, e, h1, h2, h3, this.1, this.2⟩
def Bools.mk1 (k : Int) : Bool := decide ((k) % 3 = 0)
def Bools.mkL (k : Int) : Nat → List Bool
  | 0 => []
  | n + 1 => Bools.mkL k n ++ [Bools.mk1 (k + n)]
theorem Bools.mkL_len (k : Int) : ∀ n, (Bools.mkL k n).length = n
  | 0 => rfl
  | n + 1 => by simp [Bools.mkL, Bools.mkL_len k n]
theorem Bools.mkL_at {k : Int} : ∀ {n q : Nat}, q < n → (Bools.mkL k n)[q]? = some (Bools.mk1 (k + q))
  | 0, q, h => by omega
  | n + 1, q, h => by
    rw [Bools.mkL]
    by_cases hq : q < n
    · rw [List.getElem?_append_left (by rw [Bools.mkL_len]; exact hq)]; exact Bools.mkL_at hq
    · obtain rfl : q = n := by omega
      rw [List.getElem?_append_right (by rw [Bools.mkL_len]; omega), Bools.mkL_len]; simp
theorem Bools.mkL_set {k : Int} {l : List Bool} {q : Nat} {x : Bool} (hx : l[q]? = some x) : (Bools.mkL k q ++ l.drop q)[q]? = some x ∧ (Bools.mkL k q ++ l.drop q).set q (Bools.mk1 (k + q)) = Bools.mkL k (q + 1) ++ l.drop (q + 1) := by
  obtain ⟨hq, rfl⟩ := List.getElem?_eq_some_iff.1 hx
  constructor
  · rw [List.getElem?_append_right (by rw [Bools.mkL_len]; omega), Bools.mkL_len]; simp [hq]
  · rw [List.set_append_right _ _ (by rw [Bools.mkL_len]; omega), Bools.mkL_len, Nat.sub_self, List.drop_eq_getElem_cons hq, List.set_cons_zero, Bools.mkL, List.append_assoc]; rfl

set_option maxHeartbeats 800000 in
theorem eqBoolS_same (A A' : Option Addr) (c c' lo hi lo' hi' : Nat) (l : List Bool) (w : World) (hl : l.length ≤ 1048576) (hS : Bools w lo hi A l) (hS' : Bools w lo' hi' A' l) :
    Calls Try.prog 36 #[.slice A l.length c, .slice A' l.length c'] w (RV w (.bool true)) := by
  go_enter Try.func36, Try.ntmps36
  go_wp2
  go_loopw [5] (fun i wr => ∃ q : Nat, q ≤ l.length ∧ i = .int .i64 q ∧ Below w.heap.size w wr) (fun i _ => l.length - (intOf i).toNat)
  case atStart => exact ⟨0, Nat.zero_le _, rfl, Below.refl _ _⟩
  case round =>
    obtain ⟨q, hq, rfl, hB⟩ := hrel
    by_cases hlt : q < l.length
    · obtain ⟨x, hx1, hx2⟩ := get_lt hlt
      obtain ⟨b, off, rfl, _, _, _, c0, _⟩ := Bools.at1 (hS.below hB) hx1
      obtain ⟨b', off', rfl, _, _, _, d0, _⟩ := Bools.at1 (hS'.below hB) hx1
      clear hx1
      go_wp2_with fail
      go_quiet (fail)
      have hBq : Below w.heap.size w (wr.drewN nq) := ⟨hB.os, hB.tape, hB.output, hB.size, hB.block⟩
      clear c0 d0
      go_wp2
      go_roundw
      case rel => exact ⟨q + 1, by omega, by go_num, hBq⟩
      case measure => simp [intOf]; omega
    · go_wp2
      go_ret
      exact RV.mk rfl hB
set_option maxHeartbeats 1000000 in
theorem markBoolS_any (A : Option Addr) (c lo hi : Nat) (l : List Bool) (k : Int) (w : World) (hl : l.length ≤ 1048576) (hk0 : 1 ≤ k) (hk1 : k ≤ 50000000) (hS : Bools w lo hi A l) :
    Calls Try.prog 39 #[.slice A l.length c, .int .i64 k] w fun e w' => e = .returned (.int .i64 (k + l.length)) ∧ Bools w' lo hi A (Bools.mkL k l.length) ∧ Fr lo hi w w' := by
  go_enter Try.func39, Try.ntmps39
  go_wp2
  go_loopw [1, 5] (fun v i wr => ∃ (q : Nat) (kk : Int), q ≤ l.length ∧ i = .int .i64 q ∧ v = .int .i64 kk ∧ 1 ≤ kk ∧ kk ≤ k + q ∧ Hid (kk = k + q) ∧ Bools wr lo hi A (Bools.mkL k q ++ l.drop q) ∧ Fr lo hi w wr) (fun _ i _ => l.length - (intOf i).toNat)
  case atStart => exact ⟨0, k, Nat.zero_le _, rfl, rfl, hk0, by omega, Lib.hid (by omega), by simpa [Bools.mkL] using hS, Fr.refl _ _ _⟩
  case round =>
    obtain ⟨q, kk, hq, rfl, rfl, hkk0, hkk1, HK, hT, hB⟩ := hrel
    by_cases hlt : q < l.length
    · obtain ⟨x, hx1, _⟩ := get_lt hlt
      obtain ⟨hx0, HL⟩ := Bools.mkL_set (k := k) hx1
      replace HL := Lib.hid HL
      obtain ⟨b, off, rfl, hlo, hhi, _, c0, f0⟩ := Bools.at1 hT hx0
      go_wp2
      go_roundw
      case rel =>
        have s0 := Sl.set1 (i := q) (j := 0) (y := Bools.mk1 kk) (u := .bool (decide (kk % 3 = 0))) hT hx0 Bools.len (by omega) rfl
        have g0 := Fr.setCell hB (p := ⟨b, off + q * 1 + 0, none⟩) ⟨hlo, hhi⟩ (.bool (decide (kk % 3 = 0)))
        rw [Nat.mul_one, Nat.add_zero] at s0 g0
        refine ⟨q + 1, kk + 1, by omega, by go_num, by go_num, by omega, by omega, Lib.hid (by have := HK.out; omega), ?_, g0⟩
        have hL := HL.out
        rw [← hL, ← HK.out]
        exact s0
      case measure => simp [intOf]; omega
    · have hqe : q = l.length := by omega
      subst hqe
      have hk2 : kk = k + l.length := HK.out
      subst hk2
      go_wp2
      go_ret
      refine ⟨rfl, ?_, hB⟩
      simpa using hT
set_option maxHeartbeats 4000000 in
theorem heldBoolS_any (A : Option Addr) (c lo hi n : Nat) (k : Int) (w : World) (hl : n ≤ 1048576) (hk0 : 1 ≤ k) (hk1 : k ≤ 50000000) (hS : Bools w lo hi A (Bools.mkL k n)) :
    Calls Try.prog 40 #[.slice A n c, .int .i64 k] w (RV w (.int .i64 (k + n))) := by
  go_enter Try.func40, Try.ntmps40
  go_wp2
  go_loopw [1, 5] (fun v i wr => ∃ (q : Nat) (kk : Int), q ≤ n ∧ i = .int .i64 q ∧ v = .int .i64 kk ∧ 1 ≤ kk ∧ kk ≤ k + q ∧ Hid (kk = k + q) ∧ Below w.heap.size w wr) (fun _ i _ => n - (intOf i).toNat)
  case atStart => exact ⟨0, k, Nat.zero_le _, rfl, rfl, hk0, by omega, Lib.hid (by omega), Below.refl _ _⟩
  case round =>
    obtain ⟨q, kk, hq, rfl, rfl, hkk0, hkk1, HK, hB⟩ := hrel
    by_cases hlt : q < n
    · have hx0 := Bools.mkL_at (k := k) hlt
      rw [← HK.out] at hx0
      obtain ⟨b, off, rfl, _, _, _, c0', _⟩ := Bools.at1 (hS.below hB) hx0
      have c0 : wr.cell? ⟨b, off + q, none⟩ = some (.bool (decide (kk % 3 = 0))) := c0'
      clear hx0 c0'
      have hBc := hB
      clear hB
      by_cases h3 : kk % 3 = 0
      · have h4 : decide (kk % 3 = 0) = true := by simpa using h3
        rw [h4] at c0
        clear h4
        go_wp2
        go_roundw
        case rel => exact ⟨q + 1, kk + 1, by omega, by go_num, by go_num, by omega, by omega, Lib.hid (by have := HK.out; omega), by go_grown⟩
        case measure => simp [intOf]; omega
      have h4 : decide (kk % 3 = 0) = false := by simpa using h3
      rw [h4] at c0
      clear h4
      go_wp2
      go_roundw
      case rel => exact ⟨q + 1, kk + 1, by omega, by go_num, by go_num, by omega, by omega, Lib.hid (by have := HK.out; omega), by go_grown⟩
      case measure => simp [intOf]; omega
    · have hqe : q = n := by omega
      subst hqe
      have hk2 : kk = k + q := HK.out
      subst hk2
      go_wp2
      go_ret
      exact ⟨rfl, hB⟩
end Go.Proofs.Ytdponfmhpedccaa

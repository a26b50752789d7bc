/- Requests: writing marks into them and reading the marks back. Condition: the numbers of the marks lie in 1 .. 99999999. -/
import Derived.Test.YtdponfmhpedccaaAks
import Derived.Test.YtdponfmhpedccaaMark
import Derived.BigQuiet
namespace Go.Proofs.Ytdponfmhpedccaa
open Go.RowKit

def Aks.mk1 (k : Int) : Aks := ⟨k, k + 1, k + 1 + 1⟩
def Aks.mkL (k : Int) : Nat → List Aks
  | 0 => []
  | n + 1 => Aks.mkL k n ++ [Aks.mk1 (k + 3 * n)]
theorem Aks.mkL_len (k : Int) : ∀ n, (Aks.mkL k n).length = n
  | 0 => rfl
  | n + 1 => by simp [Aks.mkL, Aks.mkL_len k n]
theorem Aks.mkL_at {k : Int} : ∀ {n q : Nat}, q < n → (Aks.mkL k n)[q]? = some (Aks.mk1 (k + 3 * q))
  | 0, q, h => by omega
  | n + 1, q, h => by
    rw [Aks.mkL]
    by_cases hq : q < n
    · rw [List.getElem?_append_left (by rw [Aks.mkL_len]; exact hq)]; exact Aks.mkL_at hq
    · obtain rfl : q = n := by omega
      rw [List.getElem?_append_right (by rw [Aks.mkL_len]; omega), Aks.mkL_len]; simp
theorem Aks.mkL_set {k : Int} {l : List Aks} {q : Nat} {x : Aks} (hx : l[q]? = some x) : (Aks.mkL k q ++ l.drop q)[q]? = some x ∧ (Aks.mkL k q ++ l.drop q).set q (Aks.mk1 (k + 3 * q)) = Aks.mkL k (q + 1) ++ l.drop (q + 1) := by
  obtain ⟨hq, rfl⟩ := List.getElem?_eq_some_iff.1 hx
  constructor
  · rw [List.getElem?_append_right (by rw [Aks.mkL_len]; omega), Aks.mkL_len]; simp [hq]
  · rw [List.set_append_right _ _ (by rw [Aks.mkL_len]; omega), Aks.mkL_len, Nat.sub_self, List.drop_eq_getElem_cons hq, List.set_cons_zero, Aks.mkL, List.append_assoc]; rfl

set_option maxHeartbeats 1000000 in
theorem markAskS_any (A : Option Addr) (c lo hi : Nat) (l : List Aks) (k : Int) (w : World) (hl : l.length ≤ 1048576) (hk0 : 1 ≤ k) (hk1 : k ≤ 50000000) (hS : Akss w lo hi A l) :
    Calls Try.prog 38 #[.slice A l.length c, .int .i64 k] w fun e w' => e = .returned (.int .i64 (k + 3 * l.length)) ∧ Akss w' lo hi A (Aks.mkL k l.length) ∧ Fr lo hi w w' := by
  go_enter Try.func38, Try.ntmps38
  go_wp2
  go_loopw [1, 5] (fun v i wr => ∃ (q : Nat) (kk : Int), q ≤ l.length ∧ i = .int .i64 q ∧ v = .int .i64 kk ∧ 1 ≤ kk ∧ kk ≤ k + 3 * q ∧ Hid (kk = k + 3 * q) ∧ Akss wr lo hi A (Aks.mkL k q ++ l.drop q) ∧ Fr lo hi w wr) (fun _ i _ => l.length - (intOf i).toNat)
  case atStart => exact ⟨0, k, Nat.zero_le _, rfl, rfl, hk0, by omega, Lib.hid (by omega), by simpa [Aks.mkL] using hS, Fr.refl _ _ _⟩
  case round =>
    obtain ⟨q, kk, hq, rfl, rfl, hkk0, hkk1, HK, hT, hB⟩ := hrel
    by_cases hlt : q < l.length
    · obtain ⟨x, hx1, _⟩ := get_lt hlt
      obtain ⟨hx0, HL⟩ := Aks.mkL_set (k := k) hx1
      replace HL := Lib.hid HL
      obtain ⟨b, off, rfl, hlo, hhi, _, hf⟩ := hT.at_ hx0
      have c0 : wr.cell? ⟨b, off + q * 3, none⟩ = some (.int .i64 x.m) := (hf 0 _ rfl).1
      have f0 : wr.frozen? ⟨b, off + q * 3, none⟩ = false := (hf 0 _ rfl).2
      have c1 : wr.cell? ⟨b, off + q * 3 + 1, none⟩ = some (.int .i64 x.r) := (hf 1 _ rfl).1
      have f1 : wr.frozen? ⟨b, off + q * 3 + 1, none⟩ = false := (hf 1 _ rfl).2
      have c2 : wr.cell? ⟨b, off + q * 3 + 2, none⟩ = some (.int .i64 x.k) := (hf 2 _ rfl).1
      have f2 : wr.frozen? ⟨b, off + q * 3 + 2, none⟩ = false := (hf 2 _ rfl).2
      clear hf
      go_wp2
      go_roundw
      case rel =>
        have s0 := Sl.set1 (i := q) (j := 0) (y := (⟨kk, x.r, x.k⟩ : Aks)) (u := .int .i64 (kk)) hT hx0 Aks.len (by omega) rfl
        have x0 := (List.getElem?_set_self (a := (⟨kk, x.r, x.k⟩ : Aks)) (List.getElem?_eq_some_iff.1 hx0).1)
        have g0 := Fr.setCell hB (p := ⟨b, off + q * 3 + 0, none⟩) ⟨hlo, hhi⟩ (.int .i64 (kk))
        have s1 := Sl.set1 (i := q) (j := 1) (y := (⟨kk, kk + 1, x.k⟩ : Aks)) (u := .int .i64 (kk + 1)) s0 x0 Aks.len (by omega) rfl
        have x1 := (List.getElem?_set_self (a := (⟨kk, kk + 1, x.k⟩ : Aks)) (List.getElem?_eq_some_iff.1 x0).1)
        have g1 := Fr.setCell g0 (p := ⟨b, off + q * 3 + 1, none⟩) ⟨hlo, hhi⟩ (.int .i64 (kk + 1))
        have s2 := Sl.set1 (i := q) (j := 2) (y := (⟨kk, kk + 1, kk + 1 + 1⟩ : Aks)) (u := .int .i64 (kk + 1 + 1)) s1 x1 Aks.len (by omega) rfl
        have x2 := (List.getElem?_set_self (a := (⟨kk, kk + 1, kk + 1 + 1⟩ : Aks)) (List.getElem?_eq_some_iff.1 x1).1)
        have g2 := Fr.setCell g1 (p := ⟨b, off + q * 3 + 2, none⟩) ⟨hlo, hhi⟩ (.int .i64 (kk + 1 + 1))
        refine ⟨q + 1, kk + 3, by omega, by go_num, by go_num, by omega, by omega, Lib.hid (by have := HK.out; omega), ?_, g2⟩
        have hL := HL.out
        rw [← hL, ← HK.out]
        have hS4 := s2
        simp only [List.set_set] at hS4
        exact hS4
      case measure => simp [intOf]; omega
    · have hqe : q = l.length := by omega
      subst hqe
      have hk2 : kk = k + 3 * l.length := HK.out
      subst hk2
      go_wp2
      go_ret
      refine ⟨rfl, ?_, hB⟩
      simpa using hT
end Go.Proofs.Ytdponfmhpedccaa

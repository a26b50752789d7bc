/- Lists of plain elements (string) in memory: comparing, marking. Condition: the numbers of the marks lie in 1 .. 99999999. -/
import Derived.Test.YtpfopmlbnogilaaOwn
import Derived.Test.YtpfopmlbnogilaaMark
import Derived.BigQuiet
namespace Go.Proofs.Ytpfopmlbnogilaa
open Go.RowKit

def Strs.cells (x : ByteArray) : List Value := [.string (x)]
theorem Strs.len (x : ByteArray) : (Strs.cells x).length = 1 := rfl
abbrev Strs (w : World) (lo hi : Nat) (A : Option Addr) (l : List ByteArray) : Prop := Sl Strs.cells 1 w lo hi A l
theorem Strs.one (x : ByteArray) : ∀ u ∈ Strs.cells x, u.oneCell' = true := by intro u hu; simp [Strs.cells] at hu; subst hu; rfl
theorem Strs.info : (Try.prog.info? 9).map (fun i => (i.zero, i.size, i.bytes)) = some (some (.string ⟨#[]⟩), 1, 16) := by kernel_rfl
theorem Strs.at1 {w : World} {lo hi : Nat} {A : Option Addr} {l : List ByteArray} (h : Strs w lo hi A l) {i : Nat} {x : ByteArray} (hx : l[i]? = some x) : ∃ b off, A = some ⟨b, off, none⟩ ∧ lo ≤ b ∧ b < hi ∧ hi ≤ w.heap.size ∧ w.cell? ⟨b, off + i, none⟩ = some (.string (x)) ∧ w.frozen? ⟨b, off + i, none⟩ = false := by
  obtain ⟨b, off, e, h1, h2, h3, hf⟩ := h.at_ hx
  have := hf 0 _ rfl
  rw [Nat.mul_one] at this
  exact ⟨b, off, e, h1, h2, h3, this.1, this.2⟩
def Strs.mk1 (k : Int) : ByteArray := mt (k)
def Strs.mkL (k : Int) : Nat → List ByteArray
  | 0 => []
  | n + 1 => Strs.mkL k n ++ [Strs.mk1 (k + n)]
theorem Strs.mkL_len (k : Int) : ∀ n, (Strs.mkL k n).length = n
  | 0 => rfl
  | n + 1 => by simp [Strs.mkL, Strs.mkL_len k n]
theorem Strs.mkL_at {k : Int} : ∀ {n q : Nat}, q < n → (Strs.mkL k n)[q]? = some (Strs.mk1 (k + q))
  | 0, q, h => by omega
  | n + 1, q, h => by
    rw [Strs.mkL]
    by_cases hq : q < n
    · rw [List.getElem?_append_left (by rw [Strs.mkL_len]; exact hq)]; exact Strs.mkL_at hq
    · obtain rfl : q = n := by omega
      rw [List.getElem?_append_right (by rw [Strs.mkL_len]; omega), Strs.mkL_len]; simp
theorem Strs.mkL_set {k : Int} {l : List ByteArray} {q : Nat} {x : ByteArray} (hx : l[q]? = some x) : (Strs.mkL k q ++ l.drop q)[q]? = some x ∧ (Strs.mkL k q ++ l.drop q).set q (Strs.mk1 (k + q)) = Strs.mkL k (q + 1) ++ l.drop (q + 1) := by
  obtain ⟨hq, rfl⟩ := List.getElem?_eq_some_iff.1 hx
  constructor
  · rw [List.getElem?_append_right (by rw [Strs.mkL_len]; omega), Strs.mkL_len]; simp [hq]
  · rw [List.set_append_right _ _ (by rw [Strs.mkL_len]; omega), Strs.mkL_len, Nat.sub_self, List.drop_eq_getElem_cons hq, List.set_cons_zero, Strs.mkL, List.append_assoc]; rfl

set_option maxHeartbeats 800000 in
theorem eqStringS_same (A A' : Option Addr) (c c' lo hi lo' hi' : Nat) (l : List ByteArray) (w : World) (hl : l.length ≤ 1048576) (hS : Strs w lo hi A l) (hS' : Strs w lo' hi' A' l) :
    Calls Try.prog 14 #[.slice A l.length c, .slice A' l.length c'] w (RV w (.bool true)) := by
  go_enter Try.func14, Try.ntmps14
  go_wp2
  go_loopw [5] (fun i wr => ∃ q : Nat, q ≤ l.length ∧ i = .int .i64 q ∧ Below w.heap.size w wr) (fun i _ => l.length - (intOf i).toNat)
  case atStart => exact ⟨0, Nat.zero_le _, rfl, Below.refl _ _⟩
  case round =>
    obtain ⟨q, hq, rfl, hB⟩ := hrel
    by_cases hlt : q < l.length
    · obtain ⟨x, hx1, hx2⟩ := get_lt hlt
      obtain ⟨b, off, rfl, _, _, _, c0, _⟩ := Strs.at1 (hS.below hB) hx1
      obtain ⟨b', off', rfl, _, _, _, d0, _⟩ := Strs.at1 (hS'.below hB) hx1
      clear hx1
      go_wp2_with fail
      go_quiet (fail)
      have hBq : Below w.heap.size w (wr.drewN nq) := ⟨hB.os, hB.tape, hB.output, hB.size, hB.block⟩
      clear c0 d0
      go_wp2
      go_roundw
      case rel => exact ⟨q + 1, by omega, by go_num, hBq⟩
      case measure => simp [intOf]; omega
    · go_wp2
      go_ret
      exact RV.mk rfl hB
set_option maxHeartbeats 1000000 in
theorem markStringS_any (A : Option Addr) (c lo hi : Nat) (l : List ByteArray) (k : Int) (w : World) (hl : l.length ≤ 1048576) (hk0 : 1 ≤ k) (hk1 : k ≤ 50000000) (hS : Strs w lo hi A l) :
    Calls Try.prog 17 #[.slice A l.length c, .int .i64 k] w fun e w' => e = .returned (.int .i64 (k + l.length)) ∧ Strs w' lo hi A (Strs.mkL k l.length) ∧ Fr lo hi w w' := by
  go_enter Try.func17, Try.ntmps17
  go_wp2
  go_loopw [1, 5] (fun v i wr => ∃ (q : Nat) (kk : Int), q ≤ l.length ∧ i = .int .i64 q ∧ v = .int .i64 kk ∧ 1 ≤ kk ∧ kk ≤ k + q ∧ Hid (kk = k + q) ∧ Strs wr lo hi A (Strs.mkL k q ++ l.drop q) ∧ Fr lo hi w wr) (fun _ i _ => l.length - (intOf i).toNat)
  case atStart => exact ⟨0, k, Nat.zero_le _, rfl, rfl, hk0, by omega, Lib.hid (by omega), by simpa [Strs.mkL] using hS, Fr.refl _ _ _⟩
  case round =>
    obtain ⟨q, kk, hq, rfl, rfl, hkk0, hkk1, HK, hT, hB⟩ := hrel
    by_cases hlt : q < l.length
    · obtain ⟨x, hx1, _⟩ := get_lt hlt
      obtain ⟨hx0, HL⟩ := Strs.mkL_set (k := k) hx1
      replace HL := Lib.hid HL
      obtain ⟨b, off, rfl, hlo, hhi, _, c0, f0⟩ := Strs.at1 hT hx0
      go_wp2_with fail
      refine (markText_any _ (by omega) (by omega) _).mono ?_
      rintro e w1 ⟨rfl, hb⟩
      have hT1 := hT.below hb
      have hB1 := hB.on hb
      clear hb c0 f0
      obtain ⟨b', off', e, _, _, _, c0, f0⟩ := Strs.at1 hT1 hx0
      cases e
      go_wp2
      go_roundw
      case rel =>
        have s0 := Sl.set1 (i := q) (j := 0) (y := Strs.mk1 kk) (u := .string (mt kk)) hT1 hx0 Strs.len (by omega) rfl
        have g0 := Fr.setCell hB1 (p := ⟨b, off + q * 1 + 0, none⟩) ⟨hlo, hhi⟩ (.string (mt kk))
        rw [Nat.mul_one, Nat.add_zero] at s0 g0
        refine ⟨q + 1, kk + 1, by omega, by go_num, by go_num, by omega, by omega, Lib.hid (by have := HK.out; omega), ?_, g0⟩
        have hL := HL.out
        rw [← hL, ← HK.out]
        exact s0
      case measure => simp [intOf]; omega
    · have hqe : q = l.length := by omega
      subst hqe
      have hk2 : kk = k + l.length := HK.out
      subst hk2
      go_wp2
      go_ret
      refine ⟨rfl, ?_, hB⟩
      simpa using hT
set_option maxHeartbeats 4000000 in
theorem heldStringS_any (A : Option Addr) (c lo hi n : Nat) (k : Int) (w : World) (hl : n ≤ 1048576) (hk0 : 1 ≤ k) (hk1 : k ≤ 50000000) (hS : Strs w lo hi A (Strs.mkL k n)) :
    Calls Try.prog 18 #[.slice A n c, .int .i64 k] w (RV w (.int .i64 (k + n))) := by
  go_enter Try.func18, Try.ntmps18
  go_wp2
  go_loopw [1, 5] (fun v i wr => ∃ (q : Nat) (kk : Int), q ≤ n ∧ i = .int .i64 q ∧ v = .int .i64 kk ∧ 1 ≤ kk ∧ kk ≤ k + q ∧ Hid (kk = k + q) ∧ Below w.heap.size w wr) (fun _ i _ => n - (intOf i).toNat)
  case atStart => exact ⟨0, k, Nat.zero_le _, rfl, rfl, hk0, by omega, Lib.hid (by omega), Below.refl _ _⟩
  case round =>
    obtain ⟨q, kk, hq, rfl, rfl, hkk0, hkk1, HK, hB⟩ := hrel
    by_cases hlt : q < n
    · have hx0 := Strs.mkL_at (k := k) hlt
      rw [← HK.out] at hx0
      obtain ⟨b, off, rfl, _, _, _, c0', _⟩ := Strs.at1 (hS.below hB) hx0
      have c0 : wr.cell? ⟨b, off + q, none⟩ = some (.string (mt kk)) := c0'
      clear hx0 c0'
      have hBc := hB
      clear hB
      go_wp2_with fail
      have hcls : ∀ w', Below wr.heap.size wr w' → w'.cell? ⟨b, off + q, none⟩ = some (.string (mt (kk))) := fun w' hw' => keep hw' c0
      have HM : ∀ W : World, Calls Try.prog 59 #[.int .i64 (kk)] W (RV W (.string (mt (kk)))) := fun W => markText_any _ (by omega) (by omega) W
      refine wp_region_quiet (C := fun w' => Below wr.heap.size wr w') (by kernel_rfl) (by kernel_rfl) ((Below.refl _ _).drew) ?_
      dsimp only [Array.toList]
      iterate 7
        with_reducible refine wpQuiet_step (fun K hK => ?_)
        go_simp
        first
          | (refine hK _ ?_; clear hK K)
          | (apply Exists.intro
             refine ⟨fun w' hw' => ?_, hK _ ?_⟩
             · have z0 := hcls w' hw'
               go_simp
               first
                 | rfl
                 | (refine (HM _).mono ?_; rintro e w1 ⟨rfl, hb⟩; exact ⟨rfl, hw'.trans (hb.mono hw'.size)⟩)
             clear hK K)
      refine wpQuiet_nil ?_
      intro W2 hW
      clear hcls HM c0
      replace hBc := Below.on' hBc hW
      clear hW
      go_wp2
      go_roundw
      case rel => exact ⟨q + 1, kk + 1, by omega, by go_num, by go_num, by omega, by omega, Lib.hid (by have := HK.out; omega), by go_grown⟩
      case measure => simp [intOf]; omega
    · have hqe : q = n := by omega
      subst hqe
      have hk2 : kk = k + q := HK.out
      subst hk2
      go_wp2
      go_ret
      exact ⟨rfl, hB⟩
end Go.Proofs.Ytpfopmlbnogilaa

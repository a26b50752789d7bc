/- Messages: writing marks into them and reading the marks back. Condition: the numbers of the marks lie in 1 .. 99999999. -/
import Derived.Test.YtpfopmlbnogilaaMsg
import Derived.Test.YtpfopmlbnogilaaMark
import Derived.BigQuiet
namespace Go.Proofs.Ytpfopmlbnogilaa
open Go.RowKit

def Msg.mk1 (k : Int) : Msg := ⟨mt (k), k + 1, mt (k + 1 + 1)⟩
def Msg.mkL (k : Int) : Nat → List Msg
  | 0 => []
  | n + 1 => Msg.mkL k n ++ [Msg.mk1 (k + 3 * n)]
theorem Msg.mkL_len (k : Int) : ∀ n, (Msg.mkL k n).length = n
  | 0 => rfl
  | n + 1 => by simp [Msg.mkL, Msg.mkL_len k n]
theorem Msg.mkL_at {k : Int} : ∀ {n q : Nat}, q < n → (Msg.mkL k n)[q]? = some (Msg.mk1 (k + 3 * q))
  | 0, q, h => by omega
  | n + 1, q, h => by
    rw [Msg.mkL]
    by_cases hq : q < n
    · rw [List.getElem?_append_left (by rw [Msg.mkL_len]; exact hq)]; exact Msg.mkL_at hq
    · obtain rfl : q = n := by omega
      rw [List.getElem?_append_right (by rw [Msg.mkL_len]; omega), Msg.mkL_len]; simp
theorem Msg.mkL_set {k : Int} {l : List Msg} {q : Nat} {x : Msg} (hx : l[q]? = some x) : (Msg.mkL k q ++ l.drop q)[q]? = some x ∧ (Msg.mkL k q ++ l.drop q).set q (Msg.mk1 (k + 3 * q)) = Msg.mkL k (q + 1) ++ l.drop (q + 1) := by
  obtain ⟨hq, rfl⟩ := List.getElem?_eq_some_iff.1 hx
  constructor
  · rw [List.getElem?_append_right (by rw [Msg.mkL_len]; omega), Msg.mkL_len]; simp [hq]
  · rw [List.set_append_right _ _ (by rw [Msg.mkL_len]; omega), Msg.mkL_len, Nat.sub_self, List.drop_eq_getElem_cons hq, List.set_cons_zero, Msg.mkL, List.append_assoc]; rfl

set_option maxHeartbeats 1000000 in
theorem markMessageS_any (A : Option Addr) (c lo hi : Nat) (l : List Msg) (k : Int) (w : World) (hl : l.length ≤ 1048576) (hk0 : 1 ≤ k) (hk1 : k ≤ 50000000) (hS : Msgs w lo hi A l) :
    Calls Try.prog 58 #[.slice A l.length c, .int .i64 k] w fun e w' => e = .returned (.int .i64 (k + 3 * l.length)) ∧ Msgs w' lo hi A (Msg.mkL k l.length) ∧ Fr lo hi w w' := by
  go_enter Try.func58, Try.ntmps58
  go_wp2
  go_loopw [1, 5] (fun v i wr => ∃ (q : Nat) (kk : Int), q ≤ l.length ∧ i = .int .i64 q ∧ v = .int .i64 kk ∧ 1 ≤ kk ∧ kk ≤ k + 3 * q ∧ Hid (kk = k + 3 * q) ∧ Msgs wr lo hi A (Msg.mkL k q ++ l.drop q) ∧ Fr lo hi w wr) (fun _ i _ => l.length - (intOf i).toNat)
  case atStart => exact ⟨0, k, Nat.zero_le _, rfl, rfl, hk0, by omega, Lib.hid (by omega), by simpa [Msg.mkL] using hS, Fr.refl _ _ _⟩
  case round =>
    obtain ⟨q, kk, hq, rfl, rfl, hkk0, hkk1, HK, hT, hB⟩ := hrel
    by_cases hlt : q < l.length
    · obtain ⟨x, hx1, _⟩ := get_lt hlt
      obtain ⟨hx0, HL⟩ := Msg.mkL_set (k := k) hx1
      replace HL := Lib.hid HL
      obtain ⟨b, off, rfl, hlo, hhi, _, hf⟩ := hT.at_ hx0
      have c0 : wr.cell? ⟨b, off + q * 3, none⟩ = some (.string x.f) := (hf 0 _ rfl).1
      have f0 : wr.frozen? ⟨b, off + q * 3, none⟩ = false := (hf 0 _ rfl).2
      have c1 : wr.cell? ⟨b, off + q * 3 + 1, none⟩ = some (.int .i64 x.n) := (hf 1 _ rfl).1
      have f1 : wr.frozen? ⟨b, off + q * 3 + 1, none⟩ = false := (hf 1 _ rfl).2
      have c2 : wr.cell? ⟨b, off + q * 3 + 2, none⟩ = some (.string x.b) := (hf 2 _ rfl).1
      have f2 : wr.frozen? ⟨b, off + q * 3 + 2, none⟩ = false := (hf 2 _ rfl).2
      clear hf
      go_wp2_with fail
      refine (markText_any _ (by omega) (by omega) _).mono ?_
      rintro e w1 ⟨rfl, hb⟩
      have t1 := hT.below hb
      have e1 := hB.on hb
      clear hb
      clear c0 f0 c1 f1 c2 f2
      obtain ⟨b', off', e, _, _, _, hf⟩ := t1.at_ hx0
      cases e
      have c0 : w1.cell? ⟨b, off + q * 3, none⟩ = some (.string (⟨x.f, x.n, x.b⟩ : Msg).f) := (hf 0 _ rfl).1
      have f0 : w1.frozen? ⟨b, off + q * 3, none⟩ = false := (hf 0 _ rfl).2
      have c1 : w1.cell? ⟨b, off + q * 3 + 1, none⟩ = some (.int .i64 (⟨x.f, x.n, x.b⟩ : Msg).n) := (hf 1 _ rfl).1
      have f1 : w1.frozen? ⟨b, off + q * 3 + 1, none⟩ = false := (hf 1 _ rfl).2
      have c2 : w1.cell? ⟨b, off + q * 3 + 2, none⟩ = some (.string (⟨x.f, x.n, x.b⟩ : Msg).b) := (hf 2 _ rfl).1
      have f2 : w1.frozen? ⟨b, off + q * 3 + 2, none⟩ = false := (hf 2 _ rfl).2
      clear hf
      go_wp2_with fail
      refine (markText_any _ (by omega) (by omega) _).mono ?_
      rintro e w2 ⟨rfl, hb⟩
      have s0 := Sl.set1 (i := q) (j := 0) (y := (⟨mt (kk), x.n, x.b⟩ : Msg)) (u := .string (mt (kk))) t1 hx0 Msg.len (by omega) rfl
      have x0 := (List.getElem?_set_self (a := (⟨mt (kk), x.n, x.b⟩ : Msg)) (List.getElem?_eq_some_iff.1 hx0).1)
      have g0 := Fr.setCell e1 (p := ⟨b, off + q * 3 + 0, none⟩) ⟨hlo, hhi⟩ (.string (mt (kk)))
      have s1 := Sl.set1 (i := q) (j := 1) (y := (⟨mt (kk), kk + 1, x.b⟩ : Msg)) (u := .int .i64 (kk + 1)) s0 x0 Msg.len (by omega) rfl
      have x1 := (List.getElem?_set_self (a := (⟨mt (kk), kk + 1, x.b⟩ : Msg)) (List.getElem?_eq_some_iff.1 x0).1)
      have g1 := Fr.setCell g0 (p := ⟨b, off + q * 3 + 1, none⟩) ⟨hlo, hhi⟩ (.int .i64 (kk + 1))
      have t2 := s1.below hb
      have e2 := g1.on hb
      clear hb
      clear c0 f0 c1 f1 c2 f2
      obtain ⟨b', off', e, _, _, _, hf⟩ := t2.at_ x1
      cases e
      have c0 : w2.cell? ⟨b, off + q * 3, none⟩ = some (.string (⟨mt (kk), kk + 1, x.b⟩ : Msg).f) := (hf 0 _ rfl).1
      have f0 : w2.frozen? ⟨b, off + q * 3, none⟩ = false := (hf 0 _ rfl).2
      have c1 : w2.cell? ⟨b, off + q * 3 + 1, none⟩ = some (.int .i64 (⟨mt (kk), kk + 1, x.b⟩ : Msg).n) := (hf 1 _ rfl).1
      have f1 : w2.frozen? ⟨b, off + q * 3 + 1, none⟩ = false := (hf 1 _ rfl).2
      have c2 : w2.cell? ⟨b, off + q * 3 + 2, none⟩ = some (.string (⟨mt (kk), kk + 1, x.b⟩ : Msg).b) := (hf 2 _ rfl).1
      have f2 : w2.frozen? ⟨b, off + q * 3 + 2, none⟩ = false := (hf 2 _ rfl).2
      clear hf
      go_wp2
      go_roundw
      case rel =>
        have s2 := Sl.set1 (i := q) (j := 2) (y := (⟨mt (kk), kk + 1, mt (kk + 1 + 1)⟩ : Msg)) (u := .string (mt (kk + 1 + 1))) t2 x1 Msg.len (by omega) rfl
        have x2 := (List.getElem?_set_self (a := (⟨mt (kk), kk + 1, mt (kk + 1 + 1)⟩ : Msg)) (List.getElem?_eq_some_iff.1 x1).1)
        have g2 := Fr.setCell e2 (p := ⟨b, off + q * 3 + 2, none⟩) ⟨hlo, hhi⟩ (.string (mt (kk + 1 + 1)))
        refine ⟨q + 1, kk + 3, by omega, by go_num, by go_num, by omega, by omega, Lib.hid (by have := HK.out; omega), ?_, g2⟩
        have hL := HL.out
        rw [← hL, ← HK.out]
        have hS4 := s2
        simp only [List.set_set] at hS4
        exact hS4
      case measure => simp [intOf]; omega
    · have hqe : q = l.length := by omega
      subst hqe
      have hk2 : kk = k + 3 * l.length := HK.out
      subst hk2
      go_wp2
      go_ret
      refine ⟨rfl, ?_, hB⟩
      simpa using hT
set_option maxHeartbeats 4000000 in
theorem heldMessageS_any (A : Option Addr) (c lo hi n : Nat) (k : Int) (w : World) (hl : n ≤ 1048576) (hk0 : 1 ≤ k) (hk1 : k ≤ 50000000) (hS : Msgs w lo hi A (Msg.mkL k n)) :
    Calls Try.prog 65 #[.slice A n c, .int .i64 k] w (RV w (.int .i64 (k + 3 * n))) := by
  go_enter Try.func65, Try.ntmps65
  go_wp2
  go_loopw [1, 5] (fun v i wr => ∃ (q : Nat) (kk : Int), q ≤ n ∧ i = .int .i64 q ∧ v = .int .i64 kk ∧ 1 ≤ kk ∧ kk ≤ k + 3 * q ∧ Hid (kk = k + 3 * q) ∧ Below w.heap.size w wr) (fun _ i _ => n - (intOf i).toNat)
  case atStart => exact ⟨0, k, Nat.zero_le _, rfl, rfl, hk0, by omega, Lib.hid (by omega), Below.refl _ _⟩
  case round =>
    obtain ⟨q, kk, hq, rfl, rfl, hkk0, hkk1, HK, hB⟩ := hrel
    by_cases hlt : q < n
    · have hx0 := Msg.mkL_at (k := k) hlt
      rw [← HK.out] at hx0
      obtain ⟨b, off, rfl, _, _, _, hf⟩ := (hS.below hB).at_ hx0
      have c0 : wr.cell? ⟨b, off + q * 3, none⟩ = some (.string (mt (kk))) := (hf 0 _ rfl).1
      have c1 : wr.cell? ⟨b, off + q * 3 + 1, none⟩ = some (.int .i64 (kk + 1)) := (hf 1 _ rfl).1
      have c2 : wr.cell? ⟨b, off + q * 3 + 2, none⟩ = some (.string (mt (kk + 1 + 1))) := (hf 2 _ rfl).1
      clear hf hx0
      have hBc := hB
      clear hB
      go_wp2_with fail
      have hcls : ∀ w', Below wr.heap.size wr w' → w'.cell? ⟨b, off + q * 3, none⟩ = some (.string (mt (kk))) := fun w' hw' => keep hw' c0
      have HM : ∀ W : World, Calls Try.prog 59 #[.int .i64 (kk)] W (RV W (.string (mt (kk)))) := fun W => markText_any _ (by omega) (by omega) W
      refine wp_region_quiet (C := fun w' => Below wr.heap.size wr w') (by kernel_rfl) (by kernel_rfl) ((Below.refl _ _).drew) ?_
      dsimp only [Array.toList]
      iterate 8
        with_reducible refine wpQuiet_step (fun K hK => ?_)
        go_simp
        first
          | (refine hK _ ?_; clear hK K)
          | (apply Exists.intro
             refine ⟨fun w' hw' => ?_, hK _ ?_⟩
             · have z0 := hcls w' hw'
               go_simp
               first
                 | rfl
                 | (refine (HM _).mono ?_; rintro e w1 ⟨rfl, hb⟩; exact ⟨rfl, hw'.trans (hb.mono hw'.size)⟩)
             clear hK K)
      refine wpQuiet_nil ?_
      intro W2 hW
      clear hcls HM
      replace c0 := keep hW c0
      replace c1 := keep hW c1
      replace c2 := keep hW c2
      replace hBc := Below.on' hBc hW
      clear hW
      go_wp2_with fail
      have hcls : ∀ w', Below W2.heap.size W2 w' → w'.cell? ⟨b, off + q * 3 + 2, none⟩ = some (.string (mt (kk + 1 + 1))) := fun w' hw' => keep hw' c2
      have HM : ∀ W : World, Calls Try.prog 59 #[.int .i64 (kk + 1 + 1)] W (RV W (.string (mt (kk + 1 + 1)))) := fun W => markText_any _ (by omega) (by omega) W
      refine wp_region_quiet (C := fun w' => Below W2.heap.size W2 w') (by kernel_rfl) (by kernel_rfl) ((Below.refl _ _).drew) ?_
      dsimp only [Array.toList]
      iterate 8
        with_reducible refine wpQuiet_step (fun K hK => ?_)
        go_simp
        first
          | (refine hK _ ?_; clear hK K)
          | (apply Exists.intro
             refine ⟨fun w' hw' => ?_, hK _ ?_⟩
             · have z0 := hcls w' hw'
               go_simp
               first
                 | rfl
                 | (refine (HM _).mono ?_; rintro e w1 ⟨rfl, hb⟩; exact ⟨rfl, hw'.trans (hb.mono hw'.size)⟩)
             clear hK K)
      refine wpQuiet_nil ?_
      intro W3 hW
      clear hcls HM
      replace c0 := keep hW c0
      replace c1 := keep hW c1
      replace c2 := keep hW c2
      replace hBc := Below.on' hBc hW
      clear hW
      go_wp2
      go_roundw
      case rel => exact ⟨q + 1, kk + 3, by omega, by go_num, by go_num, by omega, by omega, Lib.hid (by have := HK.out; omega), by go_grown⟩
      case measure => simp [intOf]; omega
    · have hqe : q = n := by omega
      subst hqe
      have hk2 : kk = k + 3 * q := HK.out
      subst hk2
      go_wp2
      go_ret
      exact ⟨rfl, hB⟩
end Go.Proofs.Ytpfopmlbnogilaa

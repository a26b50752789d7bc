/- Appliances: writing marks into them and reading the marks back. Condition: the numbers of the marks lie in 1 .. 99999999. -/
import Derived.Test.YtpfopmlbnogilaaApp
import Derived.Test.YtpfopmlbnogilaaMark
import Derived.BigQuiet
namespace Go.Proofs.Ytpfopmlbnogilaa
open Go.RowKit

def App.mk1 (k : Int) : App := ⟨mt (k), k + 1, k + 1 + 1, k + 1 + 1 + 1, k + 1 + 1 + 1 + 1⟩
def App.mkL (k : Int) : Nat → List App
  | 0 => []
  | n + 1 => App.mkL k n ++ [App.mk1 (k + 5 * n)]
theorem App.mkL_len (k : Int) : ∀ n, (App.mkL k n).length = n
  | 0 => rfl
  | n + 1 => by simp [App.mkL, App.mkL_len k n]
theorem App.mkL_at {k : Int} : ∀ {n q : Nat}, q < n → (App.mkL k n)[q]? = some (App.mk1 (k + 5 * q))
  | 0, q, h => by omega
  | n + 1, q, h => by
    rw [App.mkL]
    by_cases hq : q < n
    · rw [List.getElem?_append_left (by rw [App.mkL_len]; exact hq)]; exact App.mkL_at hq
    · obtain rfl : q = n := by omega
      rw [List.getElem?_append_right (by rw [App.mkL_len]; omega), App.mkL_len]; simp
theorem App.mkL_set {k : Int} {l : List App} {q : Nat} {x : App} (hx : l[q]? = some x) : (App.mkL k q ++ l.drop q)[q]? = some x ∧ (App.mkL k q ++ l.drop q).set q (App.mk1 (k + 5 * q)) = App.mkL k (q + 1) ++ l.drop (q + 1) := by
  obtain ⟨hq, rfl⟩ := List.getElem?_eq_some_iff.1 hx
  constructor
  · rw [List.getElem?_append_right (by rw [App.mkL_len]; omega), App.mkL_len]; simp [hq]
  · rw [List.set_append_right _ _ (by rw [App.mkL_len]; omega), App.mkL_len, Nat.sub_self, List.drop_eq_getElem_cons hq, List.set_cons_zero, App.mkL, List.append_assoc]; rfl

set_option maxHeartbeats 1000000 in
theorem markApplianceS_any (A : Option Addr) (c lo hi : Nat) (l : List App) (k : Int) (w : World) (hl : l.length ≤ 1048576) (hk0 : 1 ≤ k) (hk1 : k ≤ 50000000) (hS : Apps w lo hi A l) :
    Calls Try.prog 45 #[.slice A l.length c, .int .i64 k] w fun e w' => e = .returned (.int .i64 (k + 5 * l.length)) ∧ Apps w' lo hi A (App.mkL k l.length) ∧ Fr lo hi w w' := by
  go_enter Try.func45, Try.ntmps45
  go_wp2
  go_loopw [1, 5] (fun v i wr => ∃ (q : Nat) (kk : Int), q ≤ l.length ∧ i = .int .i64 q ∧ v = .int .i64 kk ∧ 1 ≤ kk ∧ kk ≤ k + 5 * q ∧ Hid (kk = k + 5 * q) ∧ Apps wr lo hi A (App.mkL k q ++ l.drop q) ∧ Fr lo hi w wr) (fun _ i _ => l.length - (intOf i).toNat)
  case atStart => exact ⟨0, k, Nat.zero_le _, rfl, rfl, hk0, by omega, Lib.hid (by omega), by simpa [App.mkL] using hS, Fr.refl _ _ _⟩
  case round =>
    obtain ⟨q, kk, hq, rfl, rfl, hkk0, hkk1, HK, hT, hB⟩ := hrel
    by_cases hlt : q < l.length
    · obtain ⟨x, hx1, _⟩ := get_lt hlt
      obtain ⟨hx0, HL⟩ := App.mkL_set (k := k) hx1
      replace HL := Lib.hid HL
      obtain ⟨b, off, rfl, hlo, hhi, _, hf⟩ := hT.at_ hx0
      have c0 : wr.cell? ⟨b, off + q * 5, none⟩ = some (.string x.nm) := (hf 0 _ rfl).1
      have f0 : wr.frozen? ⟨b, off + q * 5, none⟩ = false := (hf 0 _ rfl).2
      have c1 : wr.cell? ⟨b, off + q * 5 + 1, none⟩ = some (.int .i64 x.kd) := (hf 1 _ rfl).1
      have f1 : wr.frozen? ⟨b, off + q * 5 + 1, none⟩ = false := (hf 1 _ rfl).2
      have c2 : wr.cell? ⟨b, off + q * 5 + 2, none⟩ = some (.int .i64 x.nd) := (hf 2 _ rfl).1
      have f2 : wr.frozen? ⟨b, off + q * 5 + 2, none⟩ = false := (hf 2 _ rfl).2
      have c3 : wr.cell? ⟨b, off + q * 5 + 3, none⟩ = some (.int .i64 x.cw) := (hf 3 _ rfl).1
      have f3 : wr.frozen? ⟨b, off + q * 5 + 3, none⟩ = false := (hf 3 _ rfl).2
      have c4 : wr.cell? ⟨b, off + q * 5 + 4, none⟩ = some (.int .i64 x.st) := (hf 4 _ rfl).1
      have f4 : wr.frozen? ⟨b, off + q * 5 + 4, none⟩ = false := (hf 4 _ rfl).2
      clear hf
      go_wp2_with fail
      refine (markText_any _ (by omega) (by omega) _).mono ?_
      rintro e w1 ⟨rfl, hb⟩
      have t1 := hT.below hb
      have e1 := hB.on hb
      clear hb
      clear c0 f0 c1 f1 c2 f2 c3 f3 c4 f4
      obtain ⟨b', off', e, _, _, _, hf⟩ := t1.at_ hx0
      cases e
      have c0 : w1.cell? ⟨b, off + q * 5, none⟩ = some (.string (⟨x.nm, x.kd, x.nd, x.cw, x.st⟩ : App).nm) := (hf 0 _ rfl).1
      have f0 : w1.frozen? ⟨b, off + q * 5, none⟩ = false := (hf 0 _ rfl).2
      have c1 : w1.cell? ⟨b, off + q * 5 + 1, none⟩ = some (.int .i64 (⟨x.nm, x.kd, x.nd, x.cw, x.st⟩ : App).kd) := (hf 1 _ rfl).1
      have f1 : w1.frozen? ⟨b, off + q * 5 + 1, none⟩ = false := (hf 1 _ rfl).2
      have c2 : w1.cell? ⟨b, off + q * 5 + 2, none⟩ = some (.int .i64 (⟨x.nm, x.kd, x.nd, x.cw, x.st⟩ : App).nd) := (hf 2 _ rfl).1
      have f2 : w1.frozen? ⟨b, off + q * 5 + 2, none⟩ = false := (hf 2 _ rfl).2
      have c3 : w1.cell? ⟨b, off + q * 5 + 3, none⟩ = some (.int .i64 (⟨x.nm, x.kd, x.nd, x.cw, x.st⟩ : App).cw) := (hf 3 _ rfl).1
      have f3 : w1.frozen? ⟨b, off + q * 5 + 3, none⟩ = false := (hf 3 _ rfl).2
      have c4 : w1.cell? ⟨b, off + q * 5 + 4, none⟩ = some (.int .i64 (⟨x.nm, x.kd, x.nd, x.cw, x.st⟩ : App).st) := (hf 4 _ rfl).1
      have f4 : w1.frozen? ⟨b, off + q * 5 + 4, none⟩ = false := (hf 4 _ rfl).2
      clear hf
      go_wp2
      go_roundw
      case rel =>
        have s0 := Sl.set1 (i := q) (j := 0) (y := (⟨mt (kk), x.kd, x.nd, x.cw, x.st⟩ : App)) (u := .string (mt (kk))) t1 hx0 App.len (by omega) rfl
        have x0 := (List.getElem?_set_self (a := (⟨mt (kk), x.kd, x.nd, x.cw, x.st⟩ : App)) (List.getElem?_eq_some_iff.1 hx0).1)
        have g0 := Fr.setCell e1 (p := ⟨b, off + q * 5 + 0, none⟩) ⟨hlo, hhi⟩ (.string (mt (kk)))
        have s1 := Sl.set1 (i := q) (j := 1) (y := (⟨mt (kk), kk + 1, x.nd, x.cw, x.st⟩ : App)) (u := .int .i64 (kk + 1)) s0 x0 App.len (by omega) rfl
        have x1 := (List.getElem?_set_self (a := (⟨mt (kk), kk + 1, x.nd, x.cw, x.st⟩ : App)) (List.getElem?_eq_some_iff.1 x0).1)
        have g1 := Fr.setCell g0 (p := ⟨b, off + q * 5 + 1, none⟩) ⟨hlo, hhi⟩ (.int .i64 (kk + 1))
        have s2 := Sl.set1 (i := q) (j := 2) (y := (⟨mt (kk), kk + 1, kk + 1 + 1, x.cw, x.st⟩ : App)) (u := .int .i64 (kk + 1 + 1)) s1 x1 App.len (by omega) rfl
        have x2 := (List.getElem?_set_self (a := (⟨mt (kk), kk + 1, kk + 1 + 1, x.cw, x.st⟩ : App)) (List.getElem?_eq_some_iff.1 x1).1)
        have g2 := Fr.setCell g1 (p := ⟨b, off + q * 5 + 2, none⟩) ⟨hlo, hhi⟩ (.int .i64 (kk + 1 + 1))
        have s3 := Sl.set1 (i := q) (j := 3) (y := (⟨mt (kk), kk + 1, kk + 1 + 1, kk + 1 + 1 + 1, x.st⟩ : App)) (u := .int .i64 (kk + 1 + 1 + 1)) s2 x2 App.len (by omega) rfl
        have x3 := (List.getElem?_set_self (a := (⟨mt (kk), kk + 1, kk + 1 + 1, kk + 1 + 1 + 1, x.st⟩ : App)) (List.getElem?_eq_some_iff.1 x2).1)
        have g3 := Fr.setCell g2 (p := ⟨b, off + q * 5 + 3, none⟩) ⟨hlo, hhi⟩ (.int .i64 (kk + 1 + 1 + 1))
        have s4 := Sl.set1 (i := q) (j := 4) (y := (⟨mt (kk), kk + 1, kk + 1 + 1, kk + 1 + 1 + 1, kk + 1 + 1 + 1 + 1⟩ : App)) (u := .int .i64 (kk + 1 + 1 + 1 + 1)) s3 x3 App.len (by omega) rfl
        have x4 := (List.getElem?_set_self (a := (⟨mt (kk), kk + 1, kk + 1 + 1, kk + 1 + 1 + 1, kk + 1 + 1 + 1 + 1⟩ : App)) (List.getElem?_eq_some_iff.1 x3).1)
        have g4 := Fr.setCell g3 (p := ⟨b, off + q * 5 + 4, none⟩) ⟨hlo, hhi⟩ (.int .i64 (kk + 1 + 1 + 1 + 1))
        refine ⟨q + 1, kk + 5, by omega, by go_num, by go_num, by omega, by omega, Lib.hid (by have := HK.out; omega), ?_, g4⟩
        have hL := HL.out
        rw [← hL, ← HK.out]
        have hS4 := s4
        simp only [List.set_set] at hS4
        exact hS4
      case measure => simp [intOf]; omega
    · have hqe : q = l.length := by omega
      subst hqe
      have hk2 : kk = k + 5 * l.length := HK.out
      subst hk2
      go_wp2
      go_ret
      refine ⟨rfl, ?_, hB⟩
      simpa using hT
set_option maxHeartbeats 4000000 in
theorem heldApplianceS_any (A : Option Addr) (c lo hi n : Nat) (k : Int) (w : World) (hl : n ≤ 1048576) (hk0 : 1 ≤ k) (hk1 : k ≤ 50000000) (hS : Apps w lo hi A (App.mkL k n)) :
    Calls Try.prog 87 #[.slice A n c, .int .i64 k] w (RV w (.int .i64 (k + 5 * n))) := by
  go_enter Try.func87, Try.ntmps87
  go_wp2
  go_loopw [1, 5] (fun v i wr => ∃ (q : Nat) (kk : Int), q ≤ n ∧ i = .int .i64 q ∧ v = .int .i64 kk ∧ 1 ≤ kk ∧ kk ≤ k + 5 * q ∧ Hid (kk = k + 5 * q) ∧ Below w.heap.size w wr) (fun _ i _ => n - (intOf i).toNat)
  case atStart => exact ⟨0, k, Nat.zero_le _, rfl, rfl, hk0, by omega, Lib.hid (by omega), Below.refl _ _⟩
  case round =>
    obtain ⟨q, kk, hq, rfl, rfl, hkk0, hkk1, HK, hB⟩ := hrel
    by_cases hlt : q < n
    · have hx0 := App.mkL_at (k := k) hlt
      rw [← HK.out] at hx0
      obtain ⟨b, off, rfl, _, _, _, hf⟩ := (hS.below hB).at_ hx0
      have c0 : wr.cell? ⟨b, off + q * 5, none⟩ = some (.string (mt (kk))) := (hf 0 _ rfl).1
      have c1 : wr.cell? ⟨b, off + q * 5 + 1, none⟩ = some (.int .i64 (kk + 1)) := (hf 1 _ rfl).1
      have c2 : wr.cell? ⟨b, off + q * 5 + 2, none⟩ = some (.int .i64 (kk + 1 + 1)) := (hf 2 _ rfl).1
      have c3 : wr.cell? ⟨b, off + q * 5 + 3, none⟩ = some (.int .i64 (kk + 1 + 1 + 1)) := (hf 3 _ rfl).1
      have c4 : wr.cell? ⟨b, off + q * 5 + 4, none⟩ = some (.int .i64 (kk + 1 + 1 + 1 + 1)) := (hf 4 _ rfl).1
      clear hf hx0
      have hBc := hB
      clear hB
      go_wp2_with fail
      have hcls : ∀ w', Below wr.heap.size wr w' → w'.cell? ⟨b, off + q * 5, none⟩ = some (.string (mt (kk))) := fun w' hw' => keep hw' c0
      have HM : ∀ W : World, Calls Try.prog 59 #[.int .i64 (kk)] W (RV W (.string (mt (kk)))) := fun W => markText_any _ (by omega) (by omega) W
      refine wp_region_quiet (C := fun w' => Below wr.heap.size wr w') (by kernel_rfl) (by kernel_rfl) ((Below.refl _ _).drew) ?_
      dsimp only [Array.toList]
      iterate 8
        with_reducible refine wpQuiet_step (fun K hK => ?_)
        go_simp
        first
          | (refine hK _ ?_; clear hK K)
          | (apply Exists.intro
             refine ⟨fun w' hw' => ?_, hK _ ?_⟩
             · have z0 := hcls w' hw'
               go_simp
               first
                 | rfl
                 | (refine (HM _).mono ?_; rintro e w1 ⟨rfl, hb⟩; exact ⟨rfl, hw'.trans (hb.mono hw'.size)⟩)
             clear hK K)
      refine wpQuiet_nil ?_
      intro W2 hW
      clear hcls HM
      replace c0 := keep hW c0
      replace c1 := keep hW c1
      replace c2 := keep hW c2
      replace c3 := keep hW c3
      replace c4 := keep hW c4
      replace hBc := Below.on' hBc hW
      clear hW
      go_wp2
      go_roundw
      case rel => exact ⟨q + 1, kk + 5, by omega, by go_num, by go_num, by omega, by omega, Lib.hid (by have := HK.out; omega), by go_grown⟩
      case measure => simp [intOf]; omega
    · have hqe : q = n := by omega
      subst hqe
      have hk2 : kk = k + 5 * q := HK.out
      subst hk2
      go_wp2
      go_ret
      exact ⟨rfl, hB⟩
end Go.Proofs.Ytpfopmlbnogilaa

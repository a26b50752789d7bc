/- Entries: writing marks into them and reading the marks back. Condition: the numbers of the marks lie in 1 .. 99999999. -/
import Derived.Test.YtcphchmpgnfokaaDoorEnt
import Derived.Test.YtcphchmpgnfokaaDoorMark
import Derived.BigQuiet
namespace Go.Proofs.YtcphchmpgnfokaaDoor
open Go.RowKit

def Ent.mk1 (k : Int) : Ent := ⟨k, k + 1, k + 1 + 1, mt (k + 1 + 1 + 1)⟩
def Ent.mkL (k : Int) : Nat → List Ent
  | 0 => []
  | n + 1 => Ent.mkL k n ++ [Ent.mk1 (k + 4 * n)]
theorem Ent.mkL_len (k : Int) : ∀ n, (Ent.mkL k n).length = n
  | 0 => rfl
  | n + 1 => by simp [Ent.mkL, Ent.mkL_len k n]
theorem Ent.mkL_at {k : Int} : ∀ {n q : Nat}, q < n → (Ent.mkL k n)[q]? = some (Ent.mk1 (k + 4 * q))
  | 0, q, h => by omega
  | n + 1, q, h => by
    rw [Ent.mkL]
    by_cases hq : q < n
    · rw [List.getElem?_append_left (by rw [Ent.mkL_len]; exact hq)]; exact Ent.mkL_at hq
    · obtain rfl : q = n := by omega
      rw [List.getElem?_append_right (by rw [Ent.mkL_len]; omega), Ent.mkL_len]; simp
theorem Ent.mkL_set {k : Int} {l : List Ent} {q : Nat} {x : Ent} (hx : l[q]? = some x) : (Ent.mkL k q ++ l.drop q)[q]? = some x ∧ (Ent.mkL k q ++ l.drop q).set q (Ent.mk1 (k + 4 * q)) = Ent.mkL k (q + 1) ++ l.drop (q + 1) := by
  obtain ⟨hq, rfl⟩ := List.getElem?_eq_some_iff.1 hx
  constructor
  · rw [List.getElem?_append_right (by rw [Ent.mkL_len]; omega), Ent.mkL_len]; simp [hq]
  · rw [List.set_append_right _ _ (by rw [Ent.mkL_len]; omega), Ent.mkL_len, Nat.sub_self, List.drop_eq_getElem_cons hq, List.set_cons_zero, Ent.mkL, List.append_assoc]; rfl

set_option maxHeartbeats 1000000 in
theorem markEntryS_any (A : Option Addr) (c lo hi : Nat) (l : List Ent) (k : Int) (w : World) (hl : l.length ≤ 1048576) (hk0 : 1 ≤ k) (hk1 : k ≤ 50000000) (hS : Ents w lo hi A l) :
    Calls Tryd.prog 32 #[.slice A l.length c, .int .i64 k] w fun e w' => e = .returned (.int .i64 (k + 4 * l.length)) ∧ Ents w' lo hi A (Ent.mkL k l.length) ∧ Fr lo hi w w' := by
  go_enter Tryd.func32, Tryd.ntmps32
  go_wp2
  go_loopw [1, 5] (fun v i wr => ∃ (q : Nat) (kk : Int), q ≤ l.length ∧ i = .int .i64 q ∧ v = .int .i64 kk ∧ 1 ≤ kk ∧ kk ≤ k + 4 * q ∧ Hid (kk = k + 4 * q) ∧ Ents wr lo hi A (Ent.mkL k q ++ l.drop q) ∧ Fr lo hi w wr) (fun _ i _ => l.length - (intOf i).toNat)
  case atStart => exact ⟨0, k, Nat.zero_le _, rfl, rfl, hk0, by omega, Lib.hid (by omega), by simpa [Ent.mkL] using hS, Fr.refl _ _ _⟩
  case round =>
    obtain ⟨q, kk, hq, rfl, rfl, hkk0, hkk1, HK, hT, hB⟩ := hrel
    by_cases hlt : q < l.length
    · obtain ⟨x, hx1, _⟩ := get_lt hlt
      obtain ⟨hx0, HL⟩ := Ent.mkL_set (k := k) hx1
      replace HL := Lib.hid HL
      obtain ⟨b, off, rfl, hlo, hhi, _, hf⟩ := hT.at_ hx0
      have c0 : wr.cell? ⟨b, off + q * 4, none⟩ = some (.int .i64 x.r) := (hf 0 _ rfl).1
      have f0 : wr.frozen? ⟨b, off + q * 4, none⟩ = false := (hf 0 _ rfl).2
      have c1 : wr.cell? ⟨b, off + q * 4 + 1, none⟩ = some (.int .i64 x.n) := (hf 1 _ rfl).1
      have f1 : wr.frozen? ⟨b, off + q * 4 + 1, none⟩ = false := (hf 1 _ rfl).2
      have c2 : wr.cell? ⟨b, off + q * 4 + 2, none⟩ = some (.int .i64 x.m) := (hf 2 _ rfl).1
      have f2 : wr.frozen? ⟨b, off + q * 4 + 2, none⟩ = false := (hf 2 _ rfl).2
      have c3 : wr.cell? ⟨b, off + q * 4 + 3, none⟩ = some (.string x.t) := (hf 3 _ rfl).1
      have f3 : wr.frozen? ⟨b, off + q * 4 + 3, none⟩ = false := (hf 3 _ rfl).2
      clear hf
      go_wp2_with fail
      refine (markText_any _ (by omega) (by omega) _).mono ?_
      rintro e w1 ⟨rfl, hb⟩
      have s0 := Sl.set1 (i := q) (j := 0) (y := (⟨kk, x.n, x.m, x.t⟩ : Ent)) (u := .int .i64 (kk)) hT hx0 Ent.len (by omega) rfl
      have x0 := (List.getElem?_set_self (a := (⟨kk, x.n, x.m, x.t⟩ : Ent)) (List.getElem?_eq_some_iff.1 hx0).1)
      have g0 := Fr.setCell hB (p := ⟨b, off + q * 4 + 0, none⟩) ⟨hlo, hhi⟩ (.int .i64 (kk))
      have s1 := Sl.set1 (i := q) (j := 1) (y := (⟨kk, kk + 1, x.m, x.t⟩ : Ent)) (u := .int .i64 (kk + 1)) s0 x0 Ent.len (by omega) rfl
      have x1 := (List.getElem?_set_self (a := (⟨kk, kk + 1, x.m, x.t⟩ : Ent)) (List.getElem?_eq_some_iff.1 x0).1)
      have g1 := Fr.setCell g0 (p := ⟨b, off + q * 4 + 1, none⟩) ⟨hlo, hhi⟩ (.int .i64 (kk + 1))
      have s2 := Sl.set1 (i := q) (j := 2) (y := (⟨kk, kk + 1, kk + 1 + 1, x.t⟩ : Ent)) (u := .int .i64 (kk + 1 + 1)) s1 x1 Ent.len (by omega) rfl
      have x2 := (List.getElem?_set_self (a := (⟨kk, kk + 1, kk + 1 + 1, x.t⟩ : Ent)) (List.getElem?_eq_some_iff.1 x1).1)
      have g2 := Fr.setCell g1 (p := ⟨b, off + q * 4 + 2, none⟩) ⟨hlo, hhi⟩ (.int .i64 (kk + 1 + 1))
      have t1 := s2.below hb
      have e1 := g2.on hb
      clear hb
      clear c0 f0 c1 f1 c2 f2 c3 f3
      obtain ⟨b', off', e, _, _, _, hf⟩ := t1.at_ x2
      cases e
      have c0 : w1.cell? ⟨b, off + q * 4, none⟩ = some (.int .i64 (⟨kk, kk + 1, kk + 1 + 1, x.t⟩ : Ent).r) := (hf 0 _ rfl).1
      have f0 : w1.frozen? ⟨b, off + q * 4, none⟩ = false := (hf 0 _ rfl).2
      have c1 : w1.cell? ⟨b, off + q * 4 + 1, none⟩ = some (.int .i64 (⟨kk, kk + 1, kk + 1 + 1, x.t⟩ : Ent).n) := (hf 1 _ rfl).1
      have f1 : w1.frozen? ⟨b, off + q * 4 + 1, none⟩ = false := (hf 1 _ rfl).2
      have c2 : w1.cell? ⟨b, off + q * 4 + 2, none⟩ = some (.int .i64 (⟨kk, kk + 1, kk + 1 + 1, x.t⟩ : Ent).m) := (hf 2 _ rfl).1
      have f2 : w1.frozen? ⟨b, off + q * 4 + 2, none⟩ = false := (hf 2 _ rfl).2
      have c3 : w1.cell? ⟨b, off + q * 4 + 3, none⟩ = some (.string (⟨kk, kk + 1, kk + 1 + 1, x.t⟩ : Ent).t) := (hf 3 _ rfl).1
      have f3 : w1.frozen? ⟨b, off + q * 4 + 3, none⟩ = false := (hf 3 _ rfl).2
      clear hf
      go_wp2
      go_roundw
      case rel =>
        have s3 := Sl.set1 (i := q) (j := 3) (y := (⟨kk, kk + 1, kk + 1 + 1, mt (kk + 1 + 1 + 1)⟩ : Ent)) (u := .string (mt (kk + 1 + 1 + 1))) t1 x2 Ent.len (by omega) rfl
        have x3 := (List.getElem?_set_self (a := (⟨kk, kk + 1, kk + 1 + 1, mt (kk + 1 + 1 + 1)⟩ : Ent)) (List.getElem?_eq_some_iff.1 x2).1)
        have g3 := Fr.setCell e1 (p := ⟨b, off + q * 4 + 3, none⟩) ⟨hlo, hhi⟩ (.string (mt (kk + 1 + 1 + 1)))
        refine ⟨q + 1, kk + 4, by omega, by go_num, by go_num, by omega, by omega, Lib.hid (by have := HK.out; omega), ?_, g3⟩
        have hL := HL.out
        rw [← hL, ← HK.out]
        have hS4 := s3
        simp only [List.set_set] at hS4
        exact hS4
      case measure => simp [intOf]; omega
    · have hqe : q = l.length := by omega
      subst hqe
      have hk2 : kk = k + 4 * l.length := HK.out
      subst hk2
      go_wp2
      go_ret
      refine ⟨rfl, ?_, hB⟩
      simpa using hT
set_option maxHeartbeats 4000000 in
theorem heldEntryS_any (A : Option Addr) (c lo hi n : Nat) (k : Int) (w : World) (hl : n ≤ 1048576) (hk0 : 1 ≤ k) (hk1 : k ≤ 50000000) (hS : Ents w lo hi A (Ent.mkL k n)) :
    Calls Tryd.prog 40 #[.slice A n c, .int .i64 k] w (RV w (.int .i64 (k + 4 * n))) := by
  go_enter Tryd.func40, Tryd.ntmps40
  go_wp2
  go_loopw [1, 5] (fun v i wr => ∃ (q : Nat) (kk : Int), q ≤ n ∧ i = .int .i64 q ∧ v = .int .i64 kk ∧ 1 ≤ kk ∧ kk ≤ k + 4 * q ∧ Hid (kk = k + 4 * q) ∧ Below w.heap.size w wr) (fun _ i _ => n - (intOf i).toNat)
  case atStart => exact ⟨0, k, Nat.zero_le _, rfl, rfl, hk0, by omega, Lib.hid (by omega), Below.refl _ _⟩
  case round =>
    obtain ⟨q, kk, hq, rfl, rfl, hkk0, hkk1, HK, hB⟩ := hrel
    by_cases hlt : q < n
    · have hx0 := Ent.mkL_at (k := k) hlt
      rw [← HK.out] at hx0
      obtain ⟨b, off, rfl, _, _, _, hf⟩ := (hS.below hB).at_ hx0
      have c0 : wr.cell? ⟨b, off + q * 4, none⟩ = some (.int .i64 (kk)) := (hf 0 _ rfl).1
      have c1 : wr.cell? ⟨b, off + q * 4 + 1, none⟩ = some (.int .i64 (kk + 1)) := (hf 1 _ rfl).1
      have c2 : wr.cell? ⟨b, off + q * 4 + 2, none⟩ = some (.int .i64 (kk + 1 + 1)) := (hf 2 _ rfl).1
      have c3 : wr.cell? ⟨b, off + q * 4 + 3, none⟩ = some (.string (mt (kk + 1 + 1 + 1))) := (hf 3 _ rfl).1
      clear hf hx0
      have hBc := hB
      clear hB
      go_wp2_with fail
      have hcls : ∀ w', Below wr.heap.size wr w' → w'.cell? ⟨b, off + q * 4 + 3, none⟩ = some (.string (mt (kk + 1 + 1 + 1))) := fun w' hw' => keep hw' c3
      have HM : ∀ W : World, Calls Tryd.prog 62 #[.int .i64 (kk + 1 + 1 + 1)] W (RV W (.string (mt (kk + 1 + 1 + 1)))) := fun W => markText_any _ (by omega) (by omega) W
      refine wp_region_quiet (C := fun w' => Below wr.heap.size wr w') (by kernel_rfl) (by kernel_rfl) ((Below.refl _ _).drew) ?_
      dsimp only [Array.toList]
      iterate 8
        with_reducible refine wpQuiet_step (fun K hK => ?_)
        go_simp
        first
          | (refine hK _ ?_; clear hK K)
          | (apply Exists.intro
             refine ⟨fun w' hw' => ?_, hK _ ?_⟩
             · have z0 := hcls w' hw'
               go_simp
               first
                 | rfl
                 | (refine (HM _).mono ?_; rintro e w1 ⟨rfl, hb⟩; exact ⟨rfl, hw'.trans (hb.mono hw'.size)⟩)
             clear hK K)
      refine wpQuiet_nil ?_
      intro W2 hW
      clear hcls HM
      replace c0 := keep hW c0
      replace c1 := keep hW c1
      replace c2 := keep hW c2
      replace c3 := keep hW c3
      replace hBc := Below.on' hBc hW
      clear hW
      go_wp2
      go_roundw
      case rel => exact ⟨q + 1, kk + 4, by omega, by go_num, by go_num, by omega, by omega, Lib.hid (by have := HK.out; omega), by go_grown⟩
      case measure => simp [intOf]; omega
    · have hqe : q = n := by omega
      subst hqe
      have hk2 : kk = k + 4 * q := HK.out
      subst hk2
      go_wp2
      go_ret
      exact ⟨rfl, hB⟩
end Go.Proofs.YtcphchmpgnfokaaDoor

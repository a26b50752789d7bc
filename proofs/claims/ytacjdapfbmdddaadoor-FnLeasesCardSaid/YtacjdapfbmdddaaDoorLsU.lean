/- The text of a lease: what the program and the reference write. Condition: the table of powers as the row lists it. -/
import Derived.Test.YtacjdapfbmdddaaDoorLeaN
import Derived.Test.YtacjdapfbmdddaaDoorItoa
import Derived.BigQuiet
namespace Go.Proofs.YtacjdapfbmdddaaDoor
open Go.RowKit

theorem numS_len {n k : Nat} (hk : 1 ≤ k) (h : n < 10 ^ k) : (numT n).size ≤ k := by rw [Lib.size_eq, numT_dec]; exact dec_len hk h
theorem leaseB_in {h u : Int} (g : leaseB h u = true) : (0 ≤ h ∧ h ≤ 2) ∧ (0 ≤ u ∧ u ≤ 99999) := by
  simp only [leaseB, minB, inB, Bool.and_eq_true, decide_eq_true_eq] at g
  exact ⟨g.1.1, g.1.2⟩
def roomT : ByteArray := ⟨#[114, 111, 111, 109, 32]⟩
def untilT : ByteArray := ⟨#[32, 117, 110, 116, 105, 108, 32]⟩
def leaseT (h u : Int) : ByteArray := if h = 0 then ⟨#[102, 114, 101, 101]⟩ else roomT ++ numT h.toNat ++ untilT ++ numT u.toNat
def leaseTT (h u : Int) : ByteArray := if leaseB h u = true then leaseT h u else ⟨#[]⟩
set_option maxHeartbeats 4000000 in
theorem LeaseText_spec (h u : Int) (w : World) : Calls Tryd.prog 20 #[.agg #[.int .i64 h, .int .i64 u]] w (RV w (.tuple #[.string (leaseTT h u), .bool (leaseB h u)])) := by
  by_cases g : leaseB h u = true
  rotate_left
  · have g : leaseB h u = false := by simpa using g
    have hg : ∀ W, Calls Tryd.prog 41 #[.agg #[.int .i64 h, .int .i64 u]] W (RV W (.bool false)) := fun W => g ▸ leGood_any h u W
    rw [leaseTT, g, if_neg (by decide)]
    go_enter Tryd.func20, Tryd.ntmps20
    go_wp2_with fail
    refine (hg _).mono ?_
    rintro e w1 ⟨rfl, hb⟩
    have hB : Below w.heap.size w w1 := Below.on' (by go_grown) hb
    go_wp2
    go_ret2
    exact RV.mk rfl hB
  obtain ⟨hh, hu⟩ := leaseB_in g
  have hg : ∀ W, Calls Tryd.prog 41 #[.agg #[.int .i64 h, .int .i64 u]] W (RV W (.bool true)) := fun W => g ▸ leGood_any h u W
  rw [leaseTT, g, if_pos rfl]
  clear g
  obtain ⟨k, rfl⟩ : ∃ k : Nat, h = k := ⟨h.toNat, by omega⟩
  obtain ⟨n, rfl⟩ : ∃ n : Nat, u = n := ⟨u.toNat, by omega⟩
  by_cases h0 : k = 0
  · subst h0
    go_enter Tryd.func20, Tryd.ntmps20
    go_wp2_with fail
    refine (hg _).mono ?_
    rintro e w1 ⟨rfl, hb⟩
    have hB : Below w.heap.size w w1 := Below.on' (by go_grown) hb
    have c0 : w1.cell? ⟨w.heap.size, 0, none⟩ = some (.int .i64 ((0 : Nat) : Int)) := keep hb (by simp)
    go_wp2
    go_ret2
    exact RV.mk (by rw [leaseT, if_pos (by rfl)]; rfl) hB
  have HE : Hid (leaseT k n = roomT ++ numT k ++ untilT ++ numT n) := Lib.hid (by rw [leaseT, if_neg (by omega)]; rfl)
  have sk := numS_len (n := k) (k := 1) (by omega) (by omega)
  have sn := numS_len (n := n) (k := 5) (by omega) (by omega)
  have cr : ∀ W, Below w.heap.size w W → Calls Tryd.prog 44 #[.int .i64 k] W (RV W (.string (numT k))) := fun W _ => l1Num_any k (by omega) W
  have cn : ∀ W, Below w.heap.size w W → Calls Tryd.prog 44 #[.int .i64 n] W (RV W (.string (numT n))) := fun W _ => l1Num_any n (by omega) W
  generalize leaseT k n = L at HE ⊢
  generalize numT k = tk at *
  generalize numT n = tn at *
  have z1 : ((⟨#[114, 111, 111, 109, 32]⟩ : ByteArray) ++ tk).size ≤ 6 := by rw [ByteArray.size_append]; have : (⟨#[114, 111, 111, 109, 32]⟩ : ByteArray).size = 5 := rfl; omega
  have z2 : ((⟨#[114, 111, 111, 109, 32]⟩ : ByteArray) ++ tk ++ ⟨#[32, 117, 110, 116, 105, 108, 32]⟩).size ≤ 13 := by rw [ByteArray.size_append]; have : (⟨#[32, 117, 110, 116, 105, 108, 32]⟩ : ByteArray).size = 7 := rfl; omega
  go_enter Tryd.func20, Tryd.ntmps20
  go_wp2_with fail
  refine (hg _).mono ?_
  rintro e w1 ⟨rfl, hb⟩
  have hB1 : Below w.heap.size w w1 := Below.on' (by go_grown) hb
  have c0 : w1.cell? ⟨w.heap.size, 0, none⟩ = some (.int .i64 k) := keep hb (by simp)
  have c1 : w1.cell? ⟨w.heap.size, 1, none⟩ = some (.int .i64 n) := keep hb (by simp)
  clear hb hg
  go_wp2_with fail
  have hcls : ∀ w', Below w1.heap.size w1 w' → w'.cell? ⟨w.heap.size, 0, none⟩ = some (.int .i64 k) ∧ w'.cell? ⟨w.heap.size, 1, none⟩ = some (.int .i64 n) ∧ Below w.heap.size w w' :=
    fun w' h => ⟨keep h c0, keep h c1, Below.on' hB1 h⟩
  clear c0 c1
  refine wp_region_quiet (C := fun w' => Below w1.heap.size w1 w') (by kernel_rfl) (by kernel_rfl) ((Below.refl _ _).drew) ?_
  dsimp only [Array.toList]
  iterate 11
    with_reducible refine wpQuiet_step (fun K hK => ?_)
    go_simp
    first
      | (refine hK _ ?_; clear hK K)
      | (apply Exists.intro
         refine ⟨fun w' hw' => ?_, hK _ ?_⟩
         · obtain ⟨y0, y1, yb⟩ := hcls w' hw'
           go_simp
           first
             | rfl
             | (rw [if_neg (by (try simp only [ByteArray.size_append]); omega)]; exact ⟨rfl, rfl⟩)
             | (first
                  | (with_reducible refine (cr _ yb).mono ?_)
                  | (with_reducible refine (cn _ yb).mono ?_)
                rintro e w2 ⟨rfl, hb⟩
                exact ⟨rfl, hw'.trans (hb.mono hw'.size)⟩)
         clear hK K)
  refine wpQuiet_nil ?_
  intro W2 hW2
  have hB2 : Below w.heap.size w W2 := Below.on' hB1 hW2
  clear hcls cr cn
  go_wp2
  go_ret2
  exact RV.mk (by rw [HE.out]; rfl) hB2
set_option maxHeartbeats 4000000 in
theorem LeaseText_impl (h u : Int) (w : World) (hT : TabW w) : Calls Tryd.prog 19 #[.agg #[.int .i64 h, .int .i64 u]] w (RV w (.tuple #[.string (leaseTT h u), .bool (leaseB h u)])) := by
  by_cases g : leaseB h u = true
  rotate_left
  · have g : leaseB h u = false := by simpa using g
    have hg : ∀ W, Calls Tryd.prog 37 #[.agg #[.int .i64 h, .int .i64 u]] W (RV W (.bool false)) := fun W => g ▸ isLease_any h u W
    rw [leaseTT, g, if_neg (by decide)]
    go_enter Tryd.func19, Tryd.ntmps19
    go_wp2_with fail
    refine (hg _).mono ?_
    rintro e w1 ⟨rfl, hb⟩
    have hB : Below w.heap.size w w1 := Below.on' (by go_grown) hb
    go_wp2
    go_ret2
    exact RV.mk rfl hB
  obtain ⟨hh, hu⟩ := leaseB_in g
  have hg : ∀ W, Calls Tryd.prog 37 #[.agg #[.int .i64 h, .int .i64 u]] W (RV W (.bool true)) := fun W => g ▸ isLease_any h u W
  rw [leaseTT, g, if_pos rfl]
  clear g
  obtain ⟨k, rfl⟩ : ∃ k : Nat, h = k := ⟨h.toNat, by omega⟩
  obtain ⟨n, rfl⟩ : ∃ n : Nat, u = n := ⟨u.toNat, by omega⟩
  by_cases h0 : k = 0
  · subst h0
    go_enter Tryd.func19, Tryd.ntmps19
    go_wp2_with fail
    refine (hg _).mono ?_
    rintro e w1 ⟨rfl, hb⟩
    have hB : Below w.heap.size w w1 := Below.on' (by go_grown) hb
    have c0 : w1.cell? ⟨w.heap.size, 0, none⟩ = some (.int .i64 ((0 : Nat) : Int)) := keep hb (by simp)
    go_wp2
    go_ret2
    exact RV.mk (by rw [leaseT, if_pos (by rfl)]; rfl) hB
  have HE : Hid (leaseT k n = roomT ++ numT k ++ untilT ++ numT n) := Lib.hid (by rw [leaseT, if_neg (by omega)]; rfl)
  have sk := numS_len (n := k) (k := 1) (by omega) (by omega)
  have sn := numS_len (n := n) (k := 5) (by omega) (by omega)
  have cr : ∀ W, Below w.heap.size w W → Calls Tryd.prog 43 #[.int .i64 k] W (RV W (.string (numT k))) := fun W hb => itoa_any k (by omega) W (hT.below hb)
  have cn : ∀ W, Below w.heap.size w W → Calls Tryd.prog 43 #[.int .i64 n] W (RV W (.string (numT n))) := fun W hb => itoa_any n (by omega) W (hT.below hb)
  generalize leaseT k n = L at HE ⊢
  generalize numT k = tk at *
  generalize numT n = tn at *
  have z1 : ((⟨#[114, 111, 111, 109, 32]⟩ : ByteArray) ++ tk).size ≤ 6 := by rw [ByteArray.size_append]; have : (⟨#[114, 111, 111, 109, 32]⟩ : ByteArray).size = 5 := rfl; omega
  have z2 : ((⟨#[114, 111, 111, 109, 32]⟩ : ByteArray) ++ tk ++ ⟨#[32, 117, 110, 116, 105, 108, 32]⟩).size ≤ 13 := by rw [ByteArray.size_append]; have : (⟨#[32, 117, 110, 116, 105, 108, 32]⟩ : ByteArray).size = 7 := rfl; omega
  go_enter Tryd.func19, Tryd.ntmps19
  go_wp2_with fail
  refine (hg _).mono ?_
  rintro e w1 ⟨rfl, hb⟩
  have hB1 : Below w.heap.size w w1 := Below.on' (by go_grown) hb
  have c0 : w1.cell? ⟨w.heap.size, 0, none⟩ = some (.int .i64 k) := keep hb (by simp)
  have c1 : w1.cell? ⟨w.heap.size, 1, none⟩ = some (.int .i64 n) := keep hb (by simp)
  clear hb hg
  go_wp2_with fail
  have hcls : ∀ w', Below w1.heap.size w1 w' → w'.cell? ⟨w.heap.size, 0, none⟩ = some (.int .i64 k) ∧ w'.cell? ⟨w.heap.size, 1, none⟩ = some (.int .i64 n) ∧ Below w.heap.size w w' :=
    fun w' h => ⟨keep h c0, keep h c1, Below.on' hB1 h⟩
  clear c0 c1
  refine wp_region_quiet (C := fun w' => Below w1.heap.size w1 w') (by kernel_rfl) (by kernel_rfl) ((Below.refl _ _).drew) ?_
  dsimp only [Array.toList]
  iterate 11
    with_reducible refine wpQuiet_step (fun K hK => ?_)
    go_simp
    first
      | (refine hK _ ?_; clear hK K)
      | (apply Exists.intro
         refine ⟨fun w' hw' => ?_, hK _ ?_⟩
         · obtain ⟨y0, y1, yb⟩ := hcls w' hw'
           go_simp
           first
             | rfl
             | (rw [if_neg (by (try simp only [ByteArray.size_append]); omega)]; exact ⟨rfl, rfl⟩)
             | (first
                  | (with_reducible refine (cr _ yb).mono ?_)
                  | (with_reducible refine (cn _ yb).mono ?_)
                rintro e w2 ⟨rfl, hb⟩
                exact ⟨rfl, hw'.trans (hb.mono hw'.size)⟩)
         clear hK K)
  refine wpQuiet_nil ?_
  intro W2 hW2
  have hB2 : Below w.heap.size w W2 := Below.on' hB1 hW2
  clear hcls cr cn
  go_wp2
  go_ret2
  exact RV.mk (by rw [HE.out]; rfl) hB2
end Go.Proofs.YtacjdapfbmdddaaDoor

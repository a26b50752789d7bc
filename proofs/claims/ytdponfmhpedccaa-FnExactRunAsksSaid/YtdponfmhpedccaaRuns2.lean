/- RunAsks and SentBy. Condition: at most 2^20 requests. -/
import Derived.Test.YtdponfmhpedccaaRuns
namespace Go.Proofs.Ytdponfmhpedccaa
open Go.RowKit

set_option maxHeartbeats 1000000 in
theorem RunAsks_spec (h u : Int) (Al : Option Addr) (cl : Nat) (l : List Aks) (s n : Int) (w : World) (hll : l.length ≤ 1048576) (hSl : Akss w 0 w.heap.size Al l) :
    Calls Try.prog 33 #[.agg #[.int .i64 h, .int .i64 u], .slice Al l.length cl, .int .i64 s, .int .i64 n] w (RLB w (runX h u s n l) (runR h u s n l) (runOk h u s n l)) := by
  have hX0 := LX.new w h u 25
  go_enter Try.func33, Try.ntmps33
  go_wp2_with fail
  refine (leRun_any h u s n Al cl l _ hll ((hSl.alloc _).alloc _).all).mono ?_
  rintro e w1 ⟨A1, c1, rfl, hU, hc1, hb⟩
  have hX1 := hX0.below hb
  have hB1 : Below w.heap.size w w1 := Below.on' (by go_grown) hb
  have hz1 := hX1.lt
  clear hb hX0
  obtain ⟨y0, y1⟩ := hX1.out (.int .i64 (runX h u s n l).1) (.int .i64 (runX h u s n l).2)
  obtain ⟨c0, c1', z0, z1, f0, f1, p0, p1⟩ := hX1
  go_wp2
  refine bodyPost_ret (by simp [results, Try.results33, go_sem, y0, y1]; try rfl) rfl ?_
  have hF : Fr (w.heap.size + 1) (w.heap.size + 2) w1 ((w1.setCell ⟨w.heap.size + 1, 0, none⟩ (.int .i64 (runX h u s n l).1)).setCell ⟨w.heap.size + 1, 1, none⟩ (.int .i64 (runX h u s n l).2)) := ((Fr.refl _ _ w1).setCell ⟨by simp, by simp⟩ _).setCell ⟨by simp, by simp⟩ _
  refine ⟨A1, c1, rfl, ?_, hc1, by go_grown⟩
  exact (hU.fr hF (by simp)).mono (by simp; omega) (by simp) (by simp)
set_option maxHeartbeats 1000000 in
theorem RunAsks_impl (h u : Int) (Al : Option Addr) (cl : Nat) (l : List Aks) (s n : Int) (w : World) (hll : l.length ≤ 1048576) (hSl : Akss w 0 w.heap.size Al l) :
    Calls Try.prog 35 #[.agg #[.int .i64 h, .int .i64 u], .slice Al l.length cl, .int .i64 s, .int .i64 n] w (RLB w (runX h u s n l) (runR h u s n l) (runOk h u s n l)) := by
  have hX0 := LX.new w h u 25
  go_enter Try.func35, Try.ntmps35
  go_wp2_with fail
  refine (runAsks_any h u s n Al cl l _ hll ((hSl.alloc _).alloc _).all).mono ?_
  rintro e w1 ⟨A1, c1, rfl, hU, hc1, hb⟩
  have hX1 := hX0.below hb
  have hB1 : Below w.heap.size w w1 := Below.on' (by go_grown) hb
  have hz1 := hX1.lt
  clear hb hX0
  obtain ⟨y0, y1⟩ := hX1.out (.int .i64 (runX h u s n l).1) (.int .i64 (runX h u s n l).2)
  obtain ⟨c0, c1', z0, z1, f0, f1, p0, p1⟩ := hX1
  go_wp2
  refine bodyPost_ret (by simp [results, Try.results35, go_sem, y0, y1]; try rfl) rfl ?_
  have hF : Fr (w.heap.size + 1) (w.heap.size + 2) w1 ((w1.setCell ⟨w.heap.size + 1, 0, none⟩ (.int .i64 (runX h u s n l).1)).setCell ⟨w.heap.size + 1, 1, none⟩ (.int .i64 (runX h u s n l).2)) := ((Fr.refl _ _ w1).setCell ⟨by simp, by simp⟩ _).setCell ⟨by simp, by simp⟩ _
  refine ⟨A1, c1, rfl, ?_, hc1, by go_grown⟩
  exact (hU.fr hF (by simp)).mono (by simp; omega) (by simp) (by simp)
def hit (bs : List Bool) (l : List Aks) (j : Int) (i : Nat) : Bool := match l[i]?, bs[i]? with
  | some a, some b => b && decide (a.k = 3) && decide (a.r = j)
  | _, _ => false
def cntH (bs : List Bool) (l : List Aks) (j : Int) (k : Nat) : Nat := ((List.range k).filter (hit bs l j)).length
theorem cntH_step {bs : List Bool} {l : List Aks} {k : Nat} {a : Aks} {b : Bool} (ha : l[k]? = some a) (hb : bs[k]? = some b) (j : Int) : (cntH bs l j (k + 1) : Int) = cntH bs l j k + if (b && decide (a.k = 3) && decide (a.r = j)) = true then 1 else 0 := by
  have e : hit bs l j k = (b && decide (a.k = 3) && decide (a.r = j)) := by simp [hit, ha, hb]
  unfold cntH
  rw [List.range_succ, List.filter_append, List.length_append, ← e]
  by_cases hh : hit bs l j k = true
  · rw [if_pos hh, List.filter_cons_of_pos hh]; simp
  · rw [if_neg hh, List.filter_cons_of_neg hh]; simp
def sbR (h u s n : Int) (l : List Aks) : List Int := if runOk h u s n l = true then [(cntH (runR h u s n l) l 1 l.length : Int), (cntH (runR h u s n l) l 2 l.length : Int)] else []
theorem sbR_len (h u s n : Int) (l : List Aks) : (sbR h u s n l).length ≤ 1048576 := by unfold sbR; split <;> simp
/-- The slice of the two counts. -/
structure Two (g : Nat) (a b : Int) (X : World) : Prop where
  c0 : X.cell? ⟨g, 0, none⟩ = some (.int .i64 a)
  c1 : X.cell? ⟨g, 1, none⟩ = some (.int .i64 b)
  f0 : X.frozen? ⟨g, 0, none⟩ = false
  f1 : X.frozen? ⟨g, 1, none⟩ = false
theorem Two.lt {g : Nat} {a b : Int} {X : World} (h : Two g a b X) : g < X.heap.size := World.block_lt_of_cell? _ _ h.c0
theorem Two.below {g : Nat} {a b : Int} {X X' : World} (h : Two g a b X) (hb : Below X.heap.size X X') : Two g a b X' := ⟨keep hb h.c0, keep hb h.c1, keepF hb h.lt h.f0, keepF hb h.lt h.f1⟩
theorem Two.alloc {g : Nat} {a b : Int} {X : World} (h : Two g a b X) (o : Obj) : Two g a b (X.alloc o) := h.below ((Below.refl _ _).alloc (Nat.le_refl _) o)
theorem Two.set0 {g : Nat} {a b : Int} {X : World} (h : Two g a b X) (y : Int) : Two g y b (X.setCell ⟨g, 0, none⟩ (.int .i64 y)) :=
  ⟨World.cell?_setCell_same _ _ _ h.c0, (World.cell?_setCell_other _ _ _ _ (by simp)).trans h.c1, (World.frozen?_setCell ..).trans h.f0, (World.frozen?_setCell ..).trans h.f1⟩
theorem Two.set1 {g : Nat} {a b : Int} {X : World} (h : Two g a b X) (y : Int) : Two g a y (X.setCell ⟨g, 1, none⟩ (.int .i64 y)) :=
  ⟨(World.cell?_setCell_other _ _ _ _ (by simp)).trans h.c0, World.cell?_setCell_same _ _ _ h.c1, (World.frozen?_setCell ..).trans h.f0, (World.frozen?_setCell ..).trans h.f1⟩
theorem Two.sl {g : Nat} {a b : Int} {X : World} (h : Two g a b X) {lo : Nat} (hlo : lo ≤ g) : Ints X lo X.heap.size (some ⟨g, 0, none⟩) [a, b] := fun _ =>
  ⟨g, 0, rfl, hlo, h.lt, Nat.le_refl _, fun i x hi j v hv => by
    have hj : j = 0 ∧ v = .int .i64 x := by
      cases j with
      | zero => simpa [Ints.cells, eq_comm] using hv
      | succ j => simp [Ints.cells] at hv
    obtain ⟨rfl, rfl⟩ := hj
    match i, hi with
    | 0, hi => obtain rfl : a = x := by simpa using hi
               exact ⟨h.c0, h.f0⟩
    | 1, hi => obtain rfl : b = x := by simpa using hi
               exact ⟨h.c1, h.f1⟩
    | i + 2, hi => simp at hi⟩
theorem Two.new (W : World) (a b : Int) (T : TypeId) (g : Nat) (hg : g = W.heap.size) : Two g a b (W.alloc (.cells #[.int .i64 a, .int .i64 b] T)) := by
  subst hg
  exact ⟨by simp, by simp, World.frozen?_alloc_at _ _ _ _ rfl, World.frozen?_alloc_at _ _ _ _ rfl⟩
set_option maxHeartbeats 4000000 in
theorem SentBy_spec (h u : Int) (Al : Option Addr) (cl : Nat) (l : List Aks) (s n : Int) (w : World) (hll : l.length ≤ 1048576) (hSl : Akss w 0 w.heap.size Al l) :
    Calls Try.prog 41 #[.agg #[.int .i64 h, .int .i64 u], .slice Al l.length cl, .int .i64 s, .int .i64 n] w (RS2 Ints.cells 1 w (sbR h u s n l) (runOk h u s n l)) := by
  have hS0 := hSl
  have p0 : (w.alloc (.cells #[.int .i64 h, .int .i64 u] 25)).cell? ⟨w.heap.size, 0, none⟩ = some (.int .i64 h) := by simp
  have p1 : (w.alloc (.cells #[.int .i64 h, .int .i64 u] 25)).cell? ⟨w.heap.size, 1, none⟩ = some (.int .i64 u) := by simp
  go_enter Try.func41, Try.ntmps41
  go_wp2_with fail
  refine (leRun_any h u s n Al cl l _ hll (hSl.alloc _).all).mono ?_
  rintro e w1 ⟨A1, c1, rfl, hU, hc1, hb⟩
  have hB1 : Below w.heap.size w w1 := Below.on' (by go_grown) hb
  clear hb p0 p1
  have hz1 := hB1.size
  by_cases g1 : runOk h u s n l = true
  rotate_left
  · have g1 : runOk h u s n l = false := by simpa using g1
    have HN : Hid (sbR h u s n l = [] ∧ runOk h u s n l = false) := Lib.hid (by simp [sbR, g1])
    go_wp2
    go_ret2
    exact RS2.nil_ HN.out.1 HN.out.2 (by go_grown)
  have HR : Hid (sbR h u s n l = [(cntH (runR h u s n l) l 1 l.length : Int), (cntH (runR h u s n l) l 2 l.length : Int)] ∧ runOk h u s n l = true) := Lib.hid (by simp [sbR, g1])
  have HK : Hid (∀ a ∈ l, (a.r = 1 ∨ a.r = 2)) := Lib.hid (by
    intro a ha
    simp only [runOk, Bool.and_eq_true, decide_eq_true_eq] at g1
    have := List.all_eq_true.1 g1.1.1.2 a ha
    simp only [askOk, askB, roomB, inB, Bool.and_eq_true, decide_eq_true_eq] at this
    omega)
  have hRl : (runR h u s n l).length = l.length := by unfold runR; rw [if_pos g1, runF_len]
  generalize runX h u s n l = x at *
  generalize runR h u s n l = bs at hU hc1 hRl HR ⊢
  go_wp2_with fail
  clear g1
  generalize hV : ((w1.alloc _).alloc (.cells #[.int .i64 0, .int .i64 0] 3)) = V
  have hT : Two (w1.heap.size + 1) 0 0 V := by rw [← hV]; exact Two.new _ _ _ _ _ (by simp)
  have hBV : Below w1.heap.size w1 V := by rw [← hV]; exact ((Below.refl _ _).alloc (Nat.le_refl _) _).alloc (by simp) _
  clear hV
  go_loopw [30] (fun i wr => ∃ (k : Nat) (a b : Int), k ≤ l.length ∧ i = .int .i64 k ∧ 0 ≤ a ∧ a ≤ k ∧ 0 ≤ b ∧ b ≤ k ∧ Hid (a = cntH bs l 1 k ∧ b = cntH bs l 2 k) ∧ Two (w1.heap.size + 1) a b wr ∧ Below w1.heap.size w1 wr) (fun i _ => l.length - (intOf i).toNat)
  case atStart => exact ⟨0, 0, 0, Nat.zero_le _, rfl, by omega, by omega, by omega, by omega, Lib.hid ⟨rfl, rfl⟩, hT, hBV⟩
  case round =>
    obtain ⟨k, a, b, hk, rfl, ha0, ha1, hb0, hb1, HC, hT, hBr⟩ := hrel
    have hzr := hBr.size
    have hB : Below w.heap.size w wr := hB1.trans (hBr.mono hz1)
    by_cases hlt : k < l.length
    · obtain ⟨m, hm, hmM⟩ := get_lt hlt
      obtain ⟨v, hv, _⟩ := get_lt (l := bs) (i := k) (by omega)
      have HS1 := Lib.hid (cntH_step hm hv 1)
      have HS2 := Lib.hid (cntH_step hm hv 2)
      have hr12 := HK.out m hmM
      obtain ⟨p, off, rfl, _, _, _, hf⟩ := (hS0.below hB).at_ hm
      have e0 := lay (.cells #[.int .i64 m.m, .int .i64 m.r, .int .i64 m.k] 45) (show wr.cell? ⟨p, off + k * 3, none⟩ = some (.int .i64 m.m) from (hf 0 _ rfl).1)
      have d0 : wr.cell? ⟨p, off + k * 3, none⟩ = some (.int .i64 m.m) := (hf 0 _ rfl).1
      have d1 : wr.cell? ⟨p, off + k * 3 + 1, none⟩ = some (.int .i64 m.r) := (hf 1 _ rfl).1
      have d2 : wr.cell? ⟨p, off + k * 3 + 2, none⟩ = some (.int .i64 m.k) := (hf 2 _ rfl).1
      obtain ⟨q, off2, rfl, _, _, _, t0', _⟩ := Bools.at1 (hU.below hBr) hv
      have t0 := lay (.cells #[.int .i64 m.m, .int .i64 m.r, .int .i64 m.k] 45) t0'
      have hTa := hT.alloc (.cells #[.int .i64 m.m, .int .i64 m.r, .int .i64 m.k] 45)
      obtain ⟨x0, x1, x2, x3⟩ := id hTa
      have hbw : (v.toNat : Nat) ≤ 1 := by cases v <;> decide
      clear hf hm hv t0' e0 hmM hbw
      have HQ1 := HS1.out
      have HQ2 := HS2.out
      clear HS1 HS2
      have hkk : k + 1 ≤ l.length := hlt
      by_cases hq : v = true ∧ m.k = 3
      · obtain ⟨rfl, h3⟩ := hq
        rcases hr12 with hr | hr
        · have E1 : Hid (a + 1 = cntH bs l 1 (k + 1) ∧ b = cntH bs l 2 (k + 1)) := Lib.hid (by rw [HQ1, HQ2, ← HC.out.1, ← HC.out.2, h3, hr]; simp)
          rw [hr] at d1
          rw [h3] at d2
          clear HQ1 HQ2
          rw [hr, h3] at hTa x0 x1 x2 x3 t0
          go_wp2
          go_roundw
          case rel => exact ⟨k + 1, a + 1, b, hkk, by go_num, by omega, by omega, by omega, by omega, E1, hTa.set0 _, by go_grown⟩
          case measure => simp [intOf]; omega
        · have E1 : Hid (a = cntH bs l 1 (k + 1) ∧ b + 1 = cntH bs l 2 (k + 1)) := Lib.hid (by rw [HQ1, HQ2, ← HC.out.1, ← HC.out.2, h3, hr]; simp)
          rw [hr] at d1
          rw [h3] at d2
          clear HQ1 HQ2
          rw [hr, h3] at hTa x0 x1 x2 x3 t0
          go_wp2
          go_roundw
          case rel => exact ⟨k + 1, a, b + 1, hkk, by go_num, by omega, by omega, by omega, by omega, E1, hTa.set1 _, by go_grown⟩
          case measure => simp [intOf]; omega
      · have hn : (v && decide (m.k = 3)) = false := by
          rw [Bool.eq_false_iff]; intro e
          simp only [Bool.and_eq_true, decide_eq_true_eq] at e
          exact hq e
        have E1 : Hid (a = cntH bs l 1 (k + 1) ∧ b = cntH bs l 2 (k + 1)) := Lib.hid (by rw [HQ1, HQ2, ← HC.out.1, ← HC.out.2, hn]; simp)
        clear HQ1 HQ2 hn
        by_cases h3 : m.k = 3
        · have hv : v = false := by cases v; rfl; exact absurd ⟨rfl, h3⟩ hq
          subst hv
          clear hq
          rw [h3] at d2
          rw [h3] at hTa x0 x1 x2 x3 t0
          go_wp2
          go_roundw
          case rel => exact ⟨k + 1, a, b, hkk, by go_num, by omega, by omega, by omega, by omega, E1, hTa, by go_grown⟩
          case measure => simp [intOf]; omega
        · clear hq
          cases v with
          | true =>
            go_wp2
            go_roundw
            case rel => exact ⟨k + 1, a, b, hkk, by go_num, by omega, by omega, by omega, by omega, E1, hTa, by go_grown⟩
            case measure => simp [intOf]; omega
          | false =>
            go_wp2
            go_roundw
            case rel => exact ⟨k + 1, a, b, hkk, by go_num, by omega, by omega, by omega, by omega, E1, hTa, by go_grown⟩
            case measure => simp [intOf]; omega
    · obtain rfl : k = l.length := by omega
      have HE : Hid (sbR h u s n l = [a, b]) := Lib.hid (by rw [HR.out.1, HC.out.1, HC.out.2])
      go_wp2
      go_ret2
      exact RS2.of (l := [a, b]) HE.out rfl HR.out.2 (hT.sl (Nat.le_refl _)) (by omega) (Nat.le_refl _) hB
set_option maxHeartbeats 4000000 in
theorem SentBy_impl (h u : Int) (Al : Option Addr) (cl : Nat) (l : List Aks) (s n : Int) (w : World) (hll : l.length ≤ 1048576) (hSl : Akss w 0 w.heap.size Al l) :
    Calls Try.prog 42 #[.agg #[.int .i64 h, .int .i64 u], .slice Al l.length cl, .int .i64 s, .int .i64 n] w (RS2 Ints.cells 1 w (sbR h u s n l) (runOk h u s n l)) := by
  have hS0 := hSl
  have p0 : (w.alloc (.cells #[.int .i64 h, .int .i64 u] 25)).cell? ⟨w.heap.size, 0, none⟩ = some (.int .i64 h) := by simp
  have p1 : (w.alloc (.cells #[.int .i64 h, .int .i64 u] 25)).cell? ⟨w.heap.size, 1, none⟩ = some (.int .i64 u) := by simp
  go_enter Try.func42, Try.ntmps42
  go_wp2_with fail
  refine (runAsks_any h u s n Al cl l _ hll (hSl.alloc _).all).mono ?_
  rintro e w1 ⟨A1, c1, rfl, hU, hc1, hb⟩
  have hB1 : Below w.heap.size w w1 := Below.on' (by go_grown) hb
  clear hb p0 p1
  have hz1 := hB1.size
  by_cases g1 : runOk h u s n l = true
  rotate_left
  · have g1 : runOk h u s n l = false := by simpa using g1
    have HN : Hid (sbR h u s n l = [] ∧ runOk h u s n l = false) := Lib.hid (by simp [sbR, g1])
    go_wp2
    go_ret2
    exact RS2.nil_ HN.out.1 HN.out.2 (by go_grown)
  have HR : Hid (sbR h u s n l = [(cntH (runR h u s n l) l 1 l.length : Int), (cntH (runR h u s n l) l 2 l.length : Int)] ∧ runOk h u s n l = true) := Lib.hid (by simp [sbR, g1])
  have HK : Hid (∀ a ∈ l, (a.r = 1 ∨ a.r = 2)) := Lib.hid (by
    intro a ha
    simp only [runOk, Bool.and_eq_true, decide_eq_true_eq] at g1
    have := List.all_eq_true.1 g1.1.1.2 a ha
    simp only [askOk, askB, roomB, inB, Bool.and_eq_true, decide_eq_true_eq] at this
    omega)
  have hRl : (runR h u s n l).length = l.length := by unfold runR; rw [if_pos g1, runF_len]
  generalize runX h u s n l = x at *
  generalize runR h u s n l = bs at hU hc1 hRl HR ⊢
  go_wp2_with fail
  clear g1
  generalize hV : ((w1.alloc _).alloc (.cells #[.int .i64 0, .int .i64 0] 3)) = V
  have hT : Two (w1.heap.size + 1) 0 0 V := by rw [← hV]; exact Two.new _ _ _ _ _ (by simp)
  have hBV : Below w1.heap.size w1 V := by rw [← hV]; exact ((Below.refl _ _).alloc (Nat.le_refl _) _).alloc (by simp) _
  clear hV
  go_loopw [30] (fun i wr => ∃ (k : Nat) (a b : Int), k ≤ l.length ∧ i = .int .i64 k ∧ 0 ≤ a ∧ a ≤ k ∧ 0 ≤ b ∧ b ≤ k ∧ Hid (a = cntH bs l 1 k ∧ b = cntH bs l 2 k) ∧ Two (w1.heap.size + 1) a b wr ∧ Below w1.heap.size w1 wr) (fun i _ => l.length - (intOf i).toNat)
  case atStart => exact ⟨0, 0, 0, Nat.zero_le _, rfl, by omega, by omega, by omega, by omega, Lib.hid ⟨rfl, rfl⟩, hT, hBV⟩
  case round =>
    obtain ⟨k, a, b, hk, rfl, ha0, ha1, hb0, hb1, HC, hT, hBr⟩ := hrel
    have hzr := hBr.size
    have hB : Below w.heap.size w wr := hB1.trans (hBr.mono hz1)
    by_cases hlt : k < l.length
    · obtain ⟨m, hm, hmM⟩ := get_lt hlt
      obtain ⟨v, hv, _⟩ := get_lt (l := bs) (i := k) (by omega)
      have HS1 := Lib.hid (cntH_step hm hv 1)
      have HS2 := Lib.hid (cntH_step hm hv 2)
      have hr12 := HK.out m hmM
      obtain ⟨p, off, rfl, _, _, _, hf⟩ := (hS0.below hB).at_ hm
      have e0 := lay (.cells #[.int .i64 m.m, .int .i64 m.r, .int .i64 m.k] 45) (show wr.cell? ⟨p, off + k * 3, none⟩ = some (.int .i64 m.m) from (hf 0 _ rfl).1)
      have d0 : wr.cell? ⟨p, off + k * 3, none⟩ = some (.int .i64 m.m) := (hf 0 _ rfl).1
      have d1 : wr.cell? ⟨p, off + k * 3 + 1, none⟩ = some (.int .i64 m.r) := (hf 1 _ rfl).1
      have d2 : wr.cell? ⟨p, off + k * 3 + 2, none⟩ = some (.int .i64 m.k) := (hf 2 _ rfl).1
      obtain ⟨q, off2, rfl, _, _, _, t0', _⟩ := Bools.at1 (hU.below hBr) hv
      have t0 := lay (.cells #[.int .i64 m.m, .int .i64 m.r, .int .i64 m.k] 45) t0'
      have hTa := hT.alloc (.cells #[.int .i64 m.m, .int .i64 m.r, .int .i64 m.k] 45)
      obtain ⟨x0, x1, x2, x3⟩ := id hTa
      have hbw : (v.toNat : Nat) ≤ 1 := by cases v <;> decide
      clear hf hm hv t0' e0 hmM hbw
      have HQ1 := HS1.out
      have HQ2 := HS2.out
      clear HS1 HS2
      have hkk : k + 1 ≤ l.length := hlt
      by_cases hq : v = true ∧ m.k = 3
      · obtain ⟨rfl, h3⟩ := hq
        rcases hr12 with hr | hr
        · have E1 : Hid (a + 1 = cntH bs l 1 (k + 1) ∧ b = cntH bs l 2 (k + 1)) := Lib.hid (by rw [HQ1, HQ2, ← HC.out.1, ← HC.out.2, h3, hr]; simp)
          rw [hr] at d1
          rw [h3] at d2
          clear HQ1 HQ2
          rw [hr, h3] at hTa x0 x1 x2 x3 t0
          go_wp2
          go_roundw
          case rel => exact ⟨k + 1, a + 1, b, hkk, by go_num, by omega, by omega, by omega, by omega, E1, hTa.set0 _, by go_grown⟩
          case measure => simp [intOf]; omega
        · have E1 : Hid (a = cntH bs l 1 (k + 1) ∧ b + 1 = cntH bs l 2 (k + 1)) := Lib.hid (by rw [HQ1, HQ2, ← HC.out.1, ← HC.out.2, h3, hr]; simp)
          rw [hr] at d1
          rw [h3] at d2
          clear HQ1 HQ2
          rw [hr, h3] at hTa x0 x1 x2 x3 t0
          go_wp2
          go_roundw
          case rel => exact ⟨k + 1, a, b + 1, hkk, by go_num, by omega, by omega, by omega, by omega, E1, hTa.set1 _, by go_grown⟩
          case measure => simp [intOf]; omega
      · have hn : (v && decide (m.k = 3)) = false := by
          rw [Bool.eq_false_iff]; intro e
          simp only [Bool.and_eq_true, decide_eq_true_eq] at e
          exact hq e
        have E1 : Hid (a = cntH bs l 1 (k + 1) ∧ b = cntH bs l 2 (k + 1)) := Lib.hid (by rw [HQ1, HQ2, ← HC.out.1, ← HC.out.2, hn]; simp)
        clear HQ1 HQ2 hn
        by_cases h3 : m.k = 3
        · have hv : v = false := by cases v; rfl; exact absurd ⟨rfl, h3⟩ hq
          subst hv
          clear hq
          rw [h3] at d2
          rw [h3] at hTa x0 x1 x2 x3 t0
          go_wp2
          go_roundw
          case rel => exact ⟨k + 1, a, b, hkk, by go_num, by omega, by omega, by omega, by omega, E1, hTa, by go_grown⟩
          case measure => simp [intOf]; omega
        · clear hq
          cases v with
          | true =>
            go_wp2
            go_roundw
            case rel => exact ⟨k + 1, a, b, hkk, by go_num, by omega, by omega, by omega, by omega, E1, hTa, by go_grown⟩
            case measure => simp [intOf]; omega
          | false =>
            go_wp2
            go_roundw
            case rel => exact ⟨k + 1, a, b, hkk, by go_num, by omega, by omega, by omega, by omega, E1, hTa, by go_grown⟩
            case measure => simp [intOf]; omega
    · obtain rfl : k = l.length := by omega
      have HE : Hid (sbR h u s n l = [a, b]) := Lib.hid (by rw [HR.out.1, HC.out.1, HC.out.2])
      go_wp2
      go_ret2
      exact RS2.of (l := [a, b]) HE.out rfl HR.out.2 (hT.sl (Nat.le_refl _)) (by omega) (Nat.le_refl _) hB
end Go.Proofs.Ytdponfmhpedccaa

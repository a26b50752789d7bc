/- Requests answered one after another: RunAsks, SentBy. Condition: at most 2^20 requests. -/
import Derived.Test.YtdponfmhpedccaaLeaseE
import Derived.Test.YtdponfmhpedccaaAksIdx
import Derived.Test.YtdponfmhpedccaaBools
import Derived.Test.YtdponfmhpedccaaInts
namespace Go.Proofs.Ytdponfmhpedccaa
open Go.RowKit

def stepL (s n : Int) (p : (Int × Int) × List Bool) (a : Aks) : (Int × Int) × List Bool := ((answerG p.1.1 p.1.2 a.m a.r a.k s n).1, p.2 ++ [(answerG p.1.1 p.1.2 a.m a.r a.k s n).2])
def runF (h u s n : Int) (l : List Aks) : (Int × Int) × List Bool := l.foldl (stepL s n) ((h, u), [])
def askOk (a : Aks) : Bool := askB a.m a.r a.k
def runOk (h u s n : Int) (l : List Aks) : Bool := leaseB h u && decide (l.length ≤ 40) && l.all askOk && inB s 0 10 && lenB n
def runX (h u s n : Int) (l : List Aks) : Int × Int := if runOk h u s n l = true then (runF h u s n l).1 else (0, 0)
def runR (h u s n : Int) (l : List Aks) : List Bool := if runOk h u s n l = true then (runF h u s n l).2 else []
theorem runF_step {h u s n : Int} {l : List Aks} {k : Nat} {a : Aks} (ha : l[k]? = some a) : runF h u s n (l.take (k + 1)) = stepL s n (runF h u s n (l.take k)) a := by
  rw [runF, take_snoc ha, List.foldl_append]; rfl
theorem foldl_len (s n : Int) : ∀ (l : List Aks) (p : (Int × Int) × List Bool), (l.foldl (stepL s n) p).2.length = p.2.length + l.length
  | [], p => rfl
  | a :: l, p => by rw [List.foldl_cons, foldl_len s n l]; simp [stepL]; omega
theorem runF_len (h u s n : Int) (l : List Aks) : (runF h u s n l).2.length = l.length := by rw [runF, foldl_len]; simp
theorem runR_len (h u s n : Int) (l : List Aks) : (runR h u s n l).length ≤ l.length := by
  unfold runR; split
  · rw [runF_len]; exact Nat.le_refl _
  · exact Nat.zero_le _
theorem res_ok (h u : Int) : (leaseRes h u).2 = true → leaseB (leaseRes h u).1.1 (leaseRes h u).1.2 = true := by
  unfold leaseRes; split
  · rename_i h; intro _; exact h
  · intro h; cases h
theorem answerG_ok {h u : Int} (m r k s n : Int) (g : leaseB h u = true) : leaseB (answerG h u m r k s n).1.1 (answerG h u m r k s n).1.2 = true := by
  unfold answerG
  split
  · rename_i hx
    revert hx
    unfold ansX
    split
    · unfold takeG; split
      · exact res_ok _ _
      · intro h; cases h
    · split
      · unfold renewG; split
        · exact res_ok _ _
        · intro h; cases h
      · split
        · intro _; rfl
        · intro _; exact g
  · exact g
theorem runF_ok {h u : Int} (s n : Int) (g : leaseB h u = true) (l : List Aks) : leaseB (runF h u s n l).1.1 (runF h u s n l).1.2 = true := by
  have key : ∀ (l : List Aks) (p : (Int × Int) × List Bool), leaseB p.1.1 p.1.2 = true → leaseB (l.foldl (stepL s n) p).1.1 (l.foldl (stepL s n) p).1.2 = true := by
    intro l
    induction l with
    | nil => intro p h; exact h
    | cons a l ih => intro p h; exact ih _ (answerG_ok _ _ _ _ _ h)
  exact key l _ g
theorem askOk_eq {h u s n : Int} (g : leaseB h u = true) (gs : inB s 0 10 = true) (gn : lenB n = true) (a : Aks) : (asksB h u a.r a.m s && lenB n && kindB a.k) = askOk a := by
  simp [asksB, askOk, askB, g, gs, gn, Bool.and_comm]

/-- The boxes of a lease and of a result. -/
structure LX (b : Nat) (x : Int × Int) (X : World) : Prop where
  c0 : X.cell? ⟨b, 0, none⟩ = some (.int .i64 x.1)
  c1 : X.cell? ⟨b, 1, none⟩ = some (.int .i64 x.2)
  z0 : X.cell? ⟨b + 1, 0, none⟩ = some (.int .i64 0)
  z1 : X.cell? ⟨b + 1, 1, none⟩ = some (.int .i64 0)
  f0 : X.frozen? ⟨b, 0, none⟩ = false
  f1 : X.frozen? ⟨b, 1, none⟩ = false
  g0 : X.frozen? ⟨b + 1, 0, none⟩ = false
  g1 : X.frozen? ⟨b + 1, 1, none⟩ = false
theorem LX.lt {b : Nat} {x : Int × Int} {X : World} (a : LX b x X) : b + 1 < X.heap.size := World.block_lt_of_cell? _ _ a.z0
theorem LX.upto {b B : Nat} {x : Int × Int} {X X' : World} (a : LX b x X) (hB : b + 1 < B) (hb : Below B X X') : LX b x X' :=
  have h0 : ∀ o, X'.cell? ⟨b, o, none⟩ = X.cell? ⟨b, o, none⟩ := fun o => hb.cell (p := ⟨b, o, none⟩) (by show b < B; omega)
  have h1 : ∀ o, X'.cell? ⟨b + 1, o, none⟩ = X.cell? ⟨b + 1, o, none⟩ := fun o => hb.cell (p := ⟨b + 1, o, none⟩) (by show b + 1 < B; omega)
  have k0 : ∀ o, X'.frozen? ⟨b, o, none⟩ = X.frozen? ⟨b, o, none⟩ := fun o => hb.frozen (p := ⟨b, o, none⟩) (by show b < B; omega)
  have k1 : ∀ o, X'.frozen? ⟨b + 1, o, none⟩ = X.frozen? ⟨b + 1, o, none⟩ := fun o => hb.frozen (p := ⟨b + 1, o, none⟩) (by show b + 1 < B; omega)
  ⟨(h0 0).trans a.c0, (h0 1).trans a.c1, (h1 0).trans a.z0, (h1 1).trans a.z1, (k0 0).trans a.f0, (k0 1).trans a.f1, (k1 0).trans a.g0, (k1 1).trans a.g1⟩
theorem LX.below {b : Nat} {x : Int × Int} {X X' : World} (a : LX b x X) (hb : Below X.heap.size X X') : LX b x X' := a.upto a.lt hb
theorem LX.alloc {b : Nat} {x : Int × Int} {X : World} (a : LX b x X) (o : Obj) : LX b x (X.alloc o) := a.below ((Below.refl _ _).alloc (Nat.le_refl _) o)
theorem LX.new (w : World) (h u : Int) (T : TypeId) : LX w.heap.size (h, u) ((w.alloc (.cells #[.int .i64 h, .int .i64 u] T)).alloc (.cells #[.int .i64 0, .int .i64 0] T)) := by
  have e : (w.alloc (.cells #[.int .i64 h, .int .i64 u] T)).heap.size = w.heap.size + 1 := by simp
  refine ⟨lay _ (by simp), lay _ (by simp), ?_, ?_, ?_, ?_, ?_, ?_⟩
  · rw [World.cell?_alloc_at _ _ _ _ (by simp)]; rfl
  · rw [World.cell?_alloc_at _ _ _ _ (by simp)]; rfl
  · exact keepF ((Below.refl _ _).alloc (Nat.le_refl _) _) (by simp) (World.frozen?_alloc_at _ _ _ _ rfl)
  · exact keepF ((Below.refl _ _).alloc (Nat.le_refl _) _) (by simp) (World.frozen?_alloc_at _ _ _ _ rfl)
  · exact World.frozen?_alloc_at _ _ _ _ (by simp)
  · exact World.frozen?_alloc_at _ _ _ _ (by simp)
theorem LX.set {b : Nat} {x : Int × Int} {X : World} (a : LX b x X) (y z : Int) : LX b (y, z) ((X.setCell ⟨b, 0, none⟩ (.int .i64 y)).setCell ⟨b, 1, none⟩ (.int .i64 z)) := by
  refine ⟨(two_set a.c0 a.c1).1, (two_set a.c0 a.c1).2, unset (unset a.z0 (by simp)) (by simp), unset (unset a.z1 (by simp)) (by simp), ?_, ?_, ?_, ?_⟩ <;> (rw [World.frozen?_setCell, World.frozen?_setCell])
  · exact a.f0
  · exact a.f1
  · exact a.g0
  · exact a.g1
theorem LX.out {b : Nat} {x : Int × Int} {X : World} (a : LX b x X) (v0 v1 : Value) : (X.setCell ⟨b + 1, 0, none⟩ v0).cell? ⟨b + 1, 0, none⟩ = some v0 ∧ ((X.setCell ⟨b + 1, 0, none⟩ v0).setCell ⟨b + 1, 1, none⟩ v1).cell? ⟨b + 1, 1, none⟩ = some v1 :=
  ⟨World.cell?_setCell_same _ _ _ a.z0, (two_set a.z0 a.z1).2⟩
def RLB (w : World) (x : Int × Int) (R : List Bool) (B : Bool) (e : Ending) (w' : World) : Prop :=
  ∃ A c, e = .returned (.tuple #[.agg #[.int .i64 x.1, .int .i64 x.2], .slice A R.length c, .bool B]) ∧ Bools w' w.heap.size w'.heap.size A R ∧ R.length ≤ c ∧ Below w.heap.size w w'
theorem RLB.nil_ {w w' : World} {x : Int × Int} {R : List Bool} {B : Bool} (h : x = (0, 0) ∧ R = [] ∧ B = false) (hb : Below w.heap.size w w') : RLB w x R B (.returned (.tuple #[.agg #[.int .i64 0, .int .i64 0], .slice none 0 0, .bool false])) w' := by
  obtain ⟨rfl, rfl, rfl⟩ := h
  exact ⟨none, 0, rfl, Sl.nil_, Nat.le_refl _, hb⟩
theorem RLB.own {w w' : World} {x y : Int × Int} {R l : List Bool} {B : Bool} {A : Option Addr} {c b0 : Nat} (h : x = y ∧ R = l ∧ B = true) (hb0 : w.heap.size ≤ b0) (hO : Own Bools.cells 1 4 w' b0 A c l) (hb : Below w.heap.size w w') : RLB w x R B (.returned (.tuple #[.agg #[.int .i64 y.1, .int .i64 y.2], .slice A l.length c, .bool true])) w' := by
  obtain ⟨rfl, rfl, rfl⟩ := h
  exact ⟨A, c, rfl, (hO.sl Bools.len).mono hb0 (Nat.le_refl _) (Nat.le_refl _), hO.cap, hb⟩

theorem runAsks1_any (a : Aks) (W : World) : Calls Try.prog 75 #[.agg #[.int .i64 a.m, .int .i64 a.r, .int .i64 a.k]] W fun e w' => e = .returned (.bool (!askOk a)) ∧ Below W.heap.size W w' := by
  go_enter Try.func75, Try.ntmps75
  go_wp2_with fail
  refine (isAsk_any _ _ _ _).mono ?_
  rintro e w1 ⟨rfl, hb⟩
  have hB : Below W.heap.size W w1 := Below.on' (by go_grown) hb
  go_wp2
  go_ret
  exact ⟨rfl, hB⟩
theorem runAsks1_enters : Enters 75 := enters Try.func75 (by kernel_rfl) (by kernel_rfl)
theorem any_not (l : List Aks) : l.any (fun a => !askOk a) = !(l.all askOk) := List.not_all_eq_any_not.symm
theorem run_no {h u s n : Int} {l : List Aks} (g : runOk h u s n l = false) : runX h u s n l = (0, 0) ∧ runR h u s n l = [] ∧ runOk h u s n l = false := by
  simp [runX, runR, g]
set_option maxHeartbeats 4000000 in
theorem runAsks_any (h u s n : Int) (A : Option Addr) (c : Nat) (l : List Aks) (w : World) (hl : l.length ≤ 1048576) (hSl : Akss w 0 w.heap.size A l) :
    Calls Try.prog 66 #[.agg #[.int .i64 h, .int .i64 u], .slice A l.length c, .int .i64 s, .int .i64 n] w (RLB w (runX h u s n l) (runR h u s n l) (runOk h u s n l)) := by
  obtain ⟨i0, hi0, hz0, hz1, hz2⟩ := info_parts Bools.info
  have hX0 := LX.new w h u 25
  have hS0 := hSl
  go_enter Try.func66, Try.ntmps66
  have dummy : True := trivial
  clear dummy
  go_wp2_with fail
  refine (isLease_any _ _ _).mono ?_
  rintro e w1 ⟨rfl, hb⟩
  have hX1 := hX0.below hb
  have hB1 : Below w.heap.size w w1 := Below.on' (by go_grown) hb
  replace hSl := (hSl.below hB1).all
  clear hb hX0
  by_cases g1 : leaseB h u = true
  rotate_left
  · have g1 : leaseB h u = false := by simpa using g1
    have HN : Hid (runX h u s n l = (0, 0) ∧ runR h u s n l = [] ∧ runOk h u s n l = false) := Lib.hid (run_no (by simp [runOk, g1]))
    obtain ⟨y0, y1⟩ := hX1.out (.int .i64 0) (.int .i64 0)
    obtain ⟨c0, c1, z0, z1, f0, f1, p0, p1⟩ := hX1
    go_wp2
    refine bodyPost_ret (by simp [results, Try.results66, go_sem, y0, y1]; try rfl) rfl ?_
    exact RLB.nil_ HN.out (by go_grown)
  by_cases g2 : (l.length : Int) ≤ 40
  rotate_left
  · have g2' : decide (l.length ≤ 40) = false := by simp; omega
    have HN : Hid (runX h u s n l = (0, 0) ∧ runR h u s n l = [] ∧ runOk h u s n l = false) := Lib.hid (run_no (by rw [runOk, g2']; simp))
    obtain ⟨y0, y1⟩ := hX1.out (.int .i64 0) (.int .i64 0)
    obtain ⟨c0, c1, z0, z1, f0, f1, p0, p1⟩ := hX1
    clear g2'
    go_wp2
    refine bodyPost_ret (by simp [results, Try.results66, go_sem, y0, y1]; try rfl) rfl ?_
    exact RLB.nil_ HN.out (by go_grown)
  have hP : Aks.Pred 75 #[] (fun a => !askOk a) 0 0 l w1 := fun V x _ _ => runAsks1_any x V
  go_wp2_with fail
  refine (Aks.ContainsFunc_any _ _ _ A c 0 w1.heap.size 0 0 l _ runAsks1_enters hl hSl hP).mono ?_
  rintro e w2 ⟨rfl, hb⟩
  have hX2 := hX1.below hb
  have hB2 : Below w.heap.size w w2 := Below.on' hB1 hb
  replace hSl := (hSl.below hb).all
  clear hb hX1 hB1
  rw [any_not]
  clear hP
  by_cases g3 : l.all askOk = true
  rotate_left
  · have g3 : l.all askOk = false := by simpa using g3
    have HN : Hid (runX h u s n l = (0, 0) ∧ runR h u s n l = [] ∧ runOk h u s n l = false) := Lib.hid (run_no (by simp [runOk, g3]))
    obtain ⟨y0, y1⟩ := hX2.out (.int .i64 0) (.int .i64 0)
    obtain ⟨c0, c1, z0, z1, f0, f1, p0, p1⟩ := hX2
    go_wp2
    refine bodyPost_ret (by simp [results, Try.results66, go_sem, y0, y1]; try rfl) rfl ?_
    exact RLB.nil_ HN.out (by go_grown)
  go_wp2_with fail
  refine (inside_any _ _ _ _).mono ?_
  rintro e w3 ⟨rfl, hb⟩
  have hX3 := hX2.below hb
  have hB3 : Below w.heap.size w w3 := Below.on' hB2 hb
  replace hSl := (hSl.below hb).all
  clear hb hX2 hB2
  by_cases g4 : inB s 0 10 = true
  rotate_left
  · have g4 : inB s 0 10 = false := by simpa using g4
    have HN : Hid (runX h u s n l = (0, 0) ∧ runR h u s n l = [] ∧ runOk h u s n l = false) := Lib.hid (run_no (by simp [runOk, g4]))
    obtain ⟨y0, y1⟩ := hX3.out (.int .i64 0) (.int .i64 0)
    obtain ⟨c0, c1, z0, z1, f0, f1, p0, p1⟩ := hX3
    go_wp2
    refine bodyPost_ret (by simp [results, Try.results66, go_sem, y0, y1]; try rfl) rfl ?_
    exact RLB.nil_ HN.out (by go_grown)
  go_wp2_with fail
  refine (inside_any _ _ _ _).mono ?_
  rintro e w4 ⟨rfl, hb⟩
  have hX4 := hX3.below hb
  have hB4 : Below w.heap.size w w4 := Below.on' hB3 hb
  replace hSl := (hSl.below hb).all
  clear hb hX3 hB3
  have g5e : inB n 1 600 = lenB n := rfl
  rw [g5e]
  clear g5e
  by_cases g5 : lenB n = true
  rotate_left
  · have g5 : lenB n = false := by simpa using g5
    have HN : Hid (runX h u s n l = (0, 0) ∧ runR h u s n l = [] ∧ runOk h u s n l = false) := Lib.hid (run_no (by simp [runOk, g5]))
    obtain ⟨y0, y1⟩ := hX4.out (.int .i64 0) (.int .i64 0)
    obtain ⟨c0, c1, z0, z1, f0, f1, p0, p1⟩ := hX4
    go_wp2
    refine bodyPost_ret (by simp [results, Try.results66, go_sem, y0, y1]; try rfl) rfl ?_
    exact RLB.nil_ HN.out (by go_grown)
  have hln : l.length ≤ 40 := by omega
  have hzz := hX4.lt
  have hzw := hB4.size
  have HR : Hid (runX h u s n l = (runF h u s n l).1 ∧ runR h u s n l = (runF h u s n l).2 ∧ runOk h u s n l = true) := Lib.hid (by have e : runOk h u s n l = true := (by rw [runOk, g1, g3, g4, g5]; simp; omega); exact ⟨by simp [runX, e], by simp [runR, e], e⟩)
  go_wp2_with fail
  clear g1 g3 g4 g5
  go_loopw [11, 41] (fun o i wr => ∃ (k : Nat) (B : Option Addr) (d : Nat) (r : List Bool) (x : Int × Int), k ≤ l.length ∧ i = .int .i64 k ∧ o = .slice B r.length d ∧ r.length ≤ k ∧ Own Bools.cells 1 4 wr (w.heap.size + 2) B d r ∧ LX w.heap.size x wr ∧ Hid (runF h u s n (l.take k) = (x, r)) ∧ Below w.heap.size w wr ) (fun _ i _ => l.length - (intOf i).toNat)
  case atStart => exact ⟨0, none, 0, [], (h, u), Nat.zero_le _, rfl, rfl, Nat.zero_le _, Own.nil_, hX4, Lib.hid rfl, hB4⟩
  case round =>
    obtain ⟨k, B, d, r, x, hk, rfl, rfl, hr, hO, hX, HF, hB⟩ := hrel
    have hxl := hX.lt
    by_cases hlt : k < l.length
    · obtain ⟨a, ha, haM⟩ := get_lt hlt
      have HS := Lib.hid (runF_step (h := h) (u := u) (s := s) (n := n) ha)
      obtain ⟨p, off, rfl, _, hp2, _, hf⟩ := (hS0.below hB).at_ ha
      have e0 : wr.cell? ⟨p, off + k * 3, none⟩ = some (.int .i64 a.m) := (hf 0 _ rfl).1
      have e1 : wr.cell? ⟨p, off + k * 3 + 1, none⟩ = some (.int .i64 a.r) := (hf 1 _ rfl).1
      have e2 : wr.cell? ⟨p, off + k * 3 + 2, none⟩ = some (.int .i64 a.k) := (hf 2 _ rfl).1
      have hXa := hX.alloc (.cells #[.int .i64 a.m, .int .i64 a.r, .int .i64 a.k] 45)
      obtain ⟨c0, c1, z0, z1, f0, f1, p0, p1⟩ := id hXa
      clear hf
      have hcall := answer_any x.1 x.2 a.m a.r a.k s n (wr.alloc (.cells #[.int .i64 a.m, .int .i64 a.r, .int .i64 a.k] 45))
      have HG : Hid (runF h u s n (l.take (k + 1)) = ((answerG x.1 x.2 a.m a.r a.k s n).1, r ++ [(answerG x.1 x.2 a.m a.r a.k s n).2])) := Lib.hid (by rw [HS.out, HF.out]; rfl)
      clear HS HF ha
      generalize answerG x.1 x.2 a.m a.r a.k s n = y at hcall HG
      go_wp2_with fail
      refine hcall.mono ?_
      rintro e w9 ⟨rfl, hb⟩
      have hbr : Below wr.heap.size wr w9 := Below.on' (by go_grown) hb
      have hX9 := hXa.below hb
      have hB9 : Below w.heap.size w w9 := Below.on' (by go_grown) hb
      have hO9 := hO.below hbr
      have hlB := hO.lt
      have hsz := hbr.size
      have hzn := hX9.lt
      clear hb hbr hX hXa c0 c1 z0 z1 f0 f1 p0 p1 e0 e1 e2 hO hB hcall
      have hz9 := hX9.lt
      have hX10 := (hX9.alloc (.cells #[.int .i64 y.1.1, .int .i64 y.1.2] 25)).set y.1.1 y.1.2
      obtain ⟨c0, c1, z0, z1, f0, f1, p0, p1⟩ := hX9.alloc (.cells #[.int .i64 y.1.1, .int .i64 y.1.2] 25)
      go_wp2_with (at_builtin; refine wpList_append_one _ rfl (.tmp 54) (.tmp 56) _ rfl i0 _ _ Try.underlying50 hi0 hz0 hz1 hz2 rfl (by omega) Bools.len Bools.one y.2 _ (Own.alloc (Own.keep (hO9.alloc (.cells #[.int .i64 y.1.1, .int .i64 y.1.2] 25)) (fun b hb _ => (heap_setCell_other _ _ _ _ (by simp; omega)).trans (heap_setCell_other _ _ _ _ (by simp; omega)))) _) rfl rfl (new_cells_at _ _ _ _ _ (by simp) rfl) (by unfold maxLen; omega) (by omega) (by simp; omega) ?_; intro B2 d2 wb L hL hO2 hb2)
      have hlen : L.length ≤ k + 1 := by rw [hL.out]; simp; omega
      have hX11 := (hX10.alloc (.cells #[.bool y.2] 4)).upto (by omega) hb2
      have hBc : Below w.heap.size w wb := Below.trans (by go_grown) (hb2.mono (by omega))
      go_roundw
      case rel =>
        refine ⟨k + 1, B2, d2, L, y.1, by omega, by go_num, rfl, by omega, hO2, hX11, Lib.hid (by rw [HG.out, hL.out]), hBc⟩
      case measure => simp [intOf]; omega
    · obtain rfl : k = l.length := by omega
      rw [List.take_length] at HF
      have HE := Lib.hid (HR.out)
      obtain ⟨y0, y1⟩ := hX.out (.int .i64 x.1) (.int .i64 x.2)
      obtain ⟨c0, c1, z0, z1, f0, f1, p0, p1⟩ := hX
      go_wp2
      refine bodyPost_ret (by simp [results, Try.results66, go_sem, y0, y1]; try rfl) rfl ?_
      exact RLB.own (y := x) (by rw [HE.out.1, HE.out.2.1, HE.out.2.2, HF.out]; exact ⟨rfl, rfl, rfl⟩) (by omega) (hO.keep (fun b hb _ => (heap_setCell_other _ _ _ _ (by simp; omega)).trans (heap_setCell_other _ _ _ _ (by simp; omega)))) (by go_grown)
set_option maxHeartbeats 4000000 in
theorem leRun_any (h u s n : Int) (A : Option Addr) (c : Nat) (l : List Aks) (w : World) (hl : l.length ≤ 1048576) (hSl : Akss w 0 w.heap.size A l) :
    Calls Try.prog 65 #[.agg #[.int .i64 h, .int .i64 u], .slice A l.length c, .int .i64 s, .int .i64 n] w (RLB w (runX h u s n l) (runR h u s n l) (runOk h u s n l)) := by
  obtain ⟨i0, hi0, hz0, hz1, hz2⟩ := info_parts Bools.info
  have hX0 := LX.new w h u 25
  have hS0 := hSl
  go_enter Try.func65, Try.ntmps65
  have dummy : True := trivial
  clear dummy
  go_wp2_with fail
  refine (leGood_any _ _ _).mono ?_
  rintro e w1 ⟨rfl, hb⟩
  have hX1 := hX0.below hb
  have hB1 : Below w.heap.size w w1 := Below.on' (by go_grown) hb
  replace hSl := (hSl.below hB1).all
  clear hb hX0
  by_cases g1 : leaseB h u = true
  rotate_left
  · have g1 : leaseB h u = false := by simpa using g1
    have HN : Hid (runX h u s n l = (0, 0) ∧ runR h u s n l = [] ∧ runOk h u s n l = false) := Lib.hid (run_no (by simp [runOk, g1]))
    obtain ⟨y0, y1⟩ := hX1.out (.int .i64 0) (.int .i64 0)
    obtain ⟨c0, c1, z0, z1, f0, f1, p0, p1⟩ := hX1
    go_wp2
    refine bodyPost_ret (by simp [results, Try.results65, go_sem, y0, y1]; try rfl) rfl ?_
    exact RLB.nil_ HN.out (by go_grown)
  go_wp2_with fail
  refine (l1In_any _ _ _ _).mono ?_
  rintro e w2 ⟨rfl, hb⟩
  have hX2 := hX1.below hb
  have hB2 : Below w.heap.size w w2 := Below.on' hB1 hb
  replace hSl := (hSl.below hb).all
  clear hb hX1 hB1
  by_cases g4 : inB s 0 10 = true
  rotate_left
  · have g4 : inB s 0 10 = false := by simpa using g4
    have HN : Hid (runX h u s n l = (0, 0) ∧ runR h u s n l = [] ∧ runOk h u s n l = false) := Lib.hid (run_no (by simp [runOk, g4]))
    obtain ⟨y0, y1⟩ := hX2.out (.int .i64 0) (.int .i64 0)
    obtain ⟨c0, c1, z0, z1, f0, f1, p0, p1⟩ := hX2
    go_wp2
    refine bodyPost_ret (by simp [results, Try.results65, go_sem, y0, y1]; try rfl) rfl ?_
    exact RLB.nil_ HN.out (by go_grown)
  go_wp2_with fail
  refine (leLength_any _ _).mono ?_
  rintro e w3 ⟨rfl, hb⟩
  have hX3 := hX2.below hb
  have hB3 : Below w.heap.size w w3 := Below.on' hB2 hb
  replace hSl := (hSl.below hb).all
  clear hb hX2 hB2
  by_cases g5 : lenB n = true
  rotate_left
  · have g5 : lenB n = false := by simpa using g5
    have HN : Hid (runX h u s n l = (0, 0) ∧ runR h u s n l = [] ∧ runOk h u s n l = false) := Lib.hid (run_no (by simp [runOk, g5]))
    obtain ⟨y0, y1⟩ := hX3.out (.int .i64 0) (.int .i64 0)
    obtain ⟨c0, c1, z0, z1, f0, f1, p0, p1⟩ := hX3
    go_wp2
    refine bodyPost_ret (by simp [results, Try.results65, go_sem, y0, y1]; try rfl) rfl ?_
    exact RLB.nil_ HN.out (by go_grown)
  by_cases g2 : (l.length : Int) ≤ 40
  rotate_left
  · have g2' : decide (l.length ≤ 40) = false := by simp; omega
    have HN : Hid (runX h u s n l = (0, 0) ∧ runR h u s n l = [] ∧ runOk h u s n l = false) := Lib.hid (run_no (by rw [runOk, g2']; simp))
    obtain ⟨y0, y1⟩ := hX3.out (.int .i64 0) (.int .i64 0)
    obtain ⟨c0, c1, z0, z1, f0, f1, p0, p1⟩ := hX3
    clear g2'
    go_wp2
    refine bodyPost_ret (by simp [results, Try.results65, go_sem, y0, y1]; try rfl) rfl ?_
    exact RLB.nil_ HN.out (by go_grown)
  have hln : l.length ≤ 40 := by omega
  have hzz := hX3.lt
  have hzw := hB3.size
  have HRn : Hid (l.all askOk = false → runX h u s n l = (0, 0) ∧ runR h u s n l = [] ∧ runOk h u s n l = false) := Lib.hid (fun e => run_no (by simp [runOk, e]))
  have HRy : Hid (l.all askOk = true → runX h u s n l = (runF h u s n l).1 ∧ runR h u s n l = (runF h u s n l).2 ∧ runOk h u s n l = true) := Lib.hid (fun g3 => by have e : runOk h u s n l = true := (by rw [runOk, g1, g3, g4, g5]; simp; omega); exact ⟨by simp [runX, e], by simp [runR, e], e⟩)
  have HK : Hid (leaseB h u = true ∧ inB s 0 10 = true ∧ lenB n = true) := Lib.hid ⟨g1, g4, g5⟩
  go_wp2_with fail
  clear g1 g4 g5
  go_loopw [11, 38] (fun o i wr => ∃ (k : Nat) (B : Option Addr) (d : Nat) (r : List Bool) (x : Int × Int), k ≤ l.length ∧ i = .int .i64 k ∧ o = .slice B r.length d ∧ r.length ≤ k ∧ Own Bools.cells 1 4 wr (w.heap.size + 2) B d r ∧ LX w.heap.size x wr ∧ Hid (runF h u s n (l.take k) = (x, r)) ∧ Hid ((l.take k).all askOk = true) ∧ Below w.heap.size w wr ) (fun _ i _ => l.length - (intOf i).toNat)
  case atStart => exact ⟨0, none, 0, [], (h, u), Nat.zero_le _, rfl, rfl, Nat.zero_le _, Own.nil_, hX3, Lib.hid rfl, Lib.hid rfl, hB3⟩
  case round =>
    obtain ⟨k, B, d, r, x, hk, rfl, rfl, hr, hO, hX, HF, HA, hB⟩ := hrel
    have hxl := hX.lt
    by_cases hlt : k < l.length
    · obtain ⟨a, ha, haM⟩ := get_lt hlt
      have HS := Lib.hid (runF_step (h := h) (u := u) (s := s) (n := n) ha)
      obtain ⟨p, off, rfl, _, hp2, _, hf⟩ := (hS0.below hB).at_ ha
      have e0 : wr.cell? ⟨p, off + k * 3, none⟩ = some (.int .i64 a.m) := (hf 0 _ rfl).1
      have e1 : wr.cell? ⟨p, off + k * 3 + 1, none⟩ = some (.int .i64 a.r) := (hf 1 _ rfl).1
      have e2 : wr.cell? ⟨p, off + k * 3 + 2, none⟩ = some (.int .i64 a.k) := (hf 2 _ rfl).1
      have hXa := hX.alloc (.cells #[.int .i64 a.m, .int .i64 a.r, .int .i64 a.k] 45)
      obtain ⟨c0, c1, z0, z1, f0, f1, p0, p1⟩ := id hXa
      clear hf
      have HL : Hid (leaseB x.1 x.2 = true) := Lib.hid (by have := runF_ok s n HK.out.1 (l.take k); rw [HF.out] at this; exact this)
      have HQ : Hid (answerF x.1 x.2 a.m a.r a.k s n = if askOk a = true then ((answerG x.1 x.2 a.m a.r a.k s n).1, (answerG x.1 x.2 a.m a.r a.k s n).2, true) else ((0, 0), false, false)) := Lib.hid (by rw [answerF, askOk_eq HL.out HK.out.2.1 HK.out.2.2])
      have hcall := AnswerAsk_spec x.1 x.2 a.m a.r a.k s n (wr.alloc (.cells #[.int .i64 a.m, .int .i64 a.r, .int .i64 a.k] 45))
      rw [HQ.out] at hcall
      by_cases hq : askOk a = true
      rotate_left
      · rw [if_neg hq] at hcall
        have HN := HRn.out (by rw [Bool.eq_false_iff]; intro e; exact hq (List.all_eq_true.1 e a haM))
        clear hq HQ HL HS
        go_wp2_with fail
        refine hcall.mono ?_
        rintro e w9 ⟨rfl, hb⟩
        have hX9 := (hXa.below hb).alloc (.cells #[.int .i64 0, .int .i64 0] 25)
        have hB9 : Below w.heap.size w w9 := Below.on' (by go_grown) hb
        clear hb c0 c1 z0 z1 f0 f1 p0 p1 e0 e1 e2
        obtain ⟨y0, y1⟩ := hX9.out (.int .i64 0) (.int .i64 0)
        obtain ⟨c0, c1, z0, z1, f0, f1, p0, p1⟩ := hX9
        have HN := Lib.hid HN
        have hs9 := hB9.size
        go_wp2
        refine bodyPost_ret (by simp [results, Try.results65, go_sem, y0, y1]; try rfl) rfl ?_
        exact RLB.nil_ HN.out (by go_grown)
      rw [if_pos hq] at hcall
      dsimp only at hcall
      have HA' : Hid ((l.take (k + 1)).all askOk = true) := Lib.hid (by rw [take_snoc ha, List.all_append, HA.out, List.all_cons, List.all_nil, hq]; rfl)
      have HG : Hid (runF h u s n (l.take (k + 1)) = ((answerG x.1 x.2 a.m a.r a.k s n).1, r ++ [(answerG x.1 x.2 a.m a.r a.k s n).2])) := Lib.hid (by rw [HS.out, HF.out]; rfl)
      clear HS HF ha HQ hq HL
      generalize answerG x.1 x.2 a.m a.r a.k s n = y at hcall HG
      go_wp2_with fail
      refine hcall.mono ?_
      rintro e w9 ⟨rfl, hb⟩
      have hbr : Below wr.heap.size wr w9 := Below.on' (by go_grown) hb
      have hX9 := hXa.below hb
      have hB9 : Below w.heap.size w w9 := Below.on' (by go_grown) hb
      have hO9 := hO.below hbr
      have hlB := hO.lt
      have hsz := hbr.size
      have hzn := hX9.lt
      clear hb hbr hX hXa c0 c1 z0 z1 f0 f1 p0 p1 e0 e1 e2 hO hB hcall
      have hz9 := hX9.lt
      have hXn := hX9.alloc (.cells #[.int .i64 y.1.1, .int .i64 y.1.2] 25)
      obtain ⟨c0, c1, z0, z1, f0, f1, p0, p1⟩ := id hXn
      go_wp2_with (at_builtin; refine wpList_append_one2 _ rfl (.tmp 54) (.tmp 56) _ rfl i0 _ _ Try.underlying50 hi0 hz0 hz1 hz2 rfl (by omega) Bools.len Bools.one y.2 _ ((hO9.alloc (.cells #[.int .i64 y.1.1, .int .i64 y.1.2] 25)).alloc (.cells #[.bool y.2] 4)) rfl rfl (new_cells_at _ _ _ _ _ (by simp) rfl) (by unfold maxLen; omega) (by omega) (by simp; omega) ?_; intro B2 d2 wb L hL hO2 hb2 hbut _; clear c0 c1 z0 z1 f0 f1 p0 p1; have hXb := (hXn.alloc (.cells #[.bool y.2] 4)).upto (by omega) hb2; obtain ⟨c0, c1, z0, z1, f0, f1, p0, p1⟩ := id hXb; have hbk := hbut w9.heap.size (by simp; omega) (fun a ha e => by have := hlB a ha; omega); have n0 : wb.cell? ⟨w9.heap.size, 0, none⟩ = some (.int .i64 y.1.1) := (World.cell?_of_block hbk).trans (lay _ (by simp)); have n1 : wb.cell? ⟨w9.heap.size, 1, none⟩ = some (.int .i64 y.1.2) := (World.cell?_of_block hbk).trans (lay _ (by simp)); have hBc : Below w.heap.size w wb := Below.trans (by go_grown) (hb2.mono (by omega)); clear hbk hbut hb2)
      have hlen : L.length ≤ k + 1 := by rw [hL.out]; simp; omega
      have hsb := hBc.size
      go_roundw
      case rel =>
        refine ⟨k + 1, B2, d2, L, y.1, by omega, by go_num, rfl, by omega, hO2.keep (fun b hb _ => (heap_setCell_other _ _ _ _ (by simp; omega)).trans (heap_setCell_other _ _ _ _ (by simp; omega))), hXb.set _ _, Lib.hid (by rw [HG.out, hL.out]), HA', by go_grown⟩
      case measure => simp [intOf]; omega
    · obtain rfl : k = l.length := by omega
      rw [List.take_length] at HF
      have HE := Lib.hid (HRy.out (by have := HA.out; rwa [List.take_length] at this))
      obtain ⟨y0, y1⟩ := hX.out (.int .i64 x.1) (.int .i64 x.2)
      obtain ⟨c0, c1, z0, z1, f0, f1, p0, p1⟩ := hX
      go_wp2
      refine bodyPost_ret (by simp [results, Try.results65, go_sem, y0, y1]; try rfl) rfl ?_
      exact RLB.own (y := x) (by rw [HE.out.1, HE.out.2.1, HE.out.2.2, HF.out]; exact ⟨rfl, rfl, rfl⟩) (by omega) (hO.keep (fun b hb _ => (heap_setCell_other _ _ _ _ (by simp; omega)).trans (heap_setCell_other _ _ _ _ (by simp; omega)))) (by go_grown)
end Go.Proofs.Ytdponfmhpedccaa

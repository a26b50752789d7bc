/- Logs: which lists of entries are logs, as the program and the reference test it. Conditions: lists and texts shorter than 2^62. -/
import Derived.Test.YtmdmcjhodhphgaaGreatDoorText
import Derived.Test.YtmdmcjhodhphgaaGreatDoorEnt
import Derived.Deep.Quiet
namespace Go.Proofs.YtmdmcjhodhphgaaGreatDoor
open Go.RowKit

def okAt (l : List Ent) (k : Nat) : Bool :=
  match l[k]?, l[0]?, l[k - 1]? with
  | some x, some y, some z => entB x.r x.n x.m x.t && decide (x.r = y.r) && decide (x.n = k + 1) && (decide (k = 0) || decide (z.m ≤ x.m))
  | _, _, _ => true
def logB (l : List Ent) : Bool := (List.range l.length).all (okAt l) && decide (l.length ≤ 20)

theorem okAt_eq {l : List Ent} {k : Nat} {x y z : Ent} (hx : l[k]? = some x) (hy : l[0]? = some y) (hz : l[k - 1]? = some z) :
    okAt l k = (entB x.r x.n x.m x.t && decide (x.r = y.r) && decide (x.n = k + 1) && (decide (k = 0) || decide (z.m ≤ x.m))) := by
  unfold okAt; rw [hx, hy, hz]
theorem logB_bad {l : List Ent} {k : Nat} (hk : k < l.length) (h : okAt l k = false) : logB l = false := by
  have : (List.range l.length).all (okAt l) = false := by
    rw [Bool.eq_false_iff]
    intro ha
    have := List.all_eq_true.1 ha k (List.mem_range.2 hk)
    rw [h] at this; cases this
  simp [logB, this]
theorem logB_all {l : List Ent} (h : ∀ j, j < l.length → okAt l j = true) : logB l = decide (l.length ≤ 20) := by
  have : (List.range l.length).all (okAt l) = true := List.all_eq_true.2 fun j hj => h j (List.mem_range.1 hj)
  simp [logB, this]

set_option maxHeartbeats 4000000 in
theorem isLog_any (A : Option Addr) (c : Nat) (l : List Ent) (w : World) (hl : l.length ≤ maxLen) (hm : ∀ x ∈ l, x.t.size ≤ maxLen) (hS : Ents w 0 w.heap.size A l) :
    Calls Tryz.prog 50 #[.slice A l.length c] w (RV w (.bool (logB l))) := by
  unfold maxLen at hl
  go_enter Tryz.func50, Tryz.ntmps50
  go_wp2
  go_loopw [7] (fun i wr => ∃ k : Nat, k ≤ l.length ∧ i = .int .i64 k ∧ (∀ j, j < k → okAt l j = true) ∧ Below w.heap.size w wr) (fun i _ => l.length - (intOf i).toNat)
  case atStart => exact ⟨0, Nat.zero_le _, rfl, fun j hj => absurd hj (by omega), Below.refl _ _⟩
  case round =>
    obtain ⟨k, hk, rfl, hx, hB⟩ := hrel
    by_cases hlt : k < l.length
    · obtain ⟨x, hx1, hx2⟩ := get_lt hlt
      obtain ⟨y, hy1, hy2⟩ := get_lt (l := l) (i := 0) (by omega)
      obtain ⟨z, hz1, hz2⟩ := get_lt (l := l) (i := k - 1) (by omega)
      have hE := okAt_eq hx1 hy1 hz1
      have hl0 : 0 < l.length := by omega
      have hwr : IntKind.i64.wrap ((k : Int) + 1) = (k : Int) + 1 := IntWalk.i64_in _ (by omega)
      have hSr := hS.below hB
      obtain ⟨b, off, rfl, hb0, hb1, hb2, hf⟩ := hSr.at_ hx1
      have c0 : wr.cell? ⟨b, off + k * 4, none⟩ = some (.int .i64 x.r) := (hf 0 _ rfl).1
      have c1 : wr.cell? ⟨b, off + k * 4 + 1, none⟩ = some (.int .i64 x.n) := (hf 1 _ rfl).1
      have c2 : wr.cell? ⟨b, off + k * 4 + 2, none⟩ = some (.int .i64 x.m) := (hf 2 _ rfl).1
      have c3 : wr.cell? ⟨b, off + k * 4 + 3, none⟩ = some (.string x.t) := (hf 3 _ rfl).1
      clear hf
      have c4 : wr.cell? ⟨b, off, none⟩ = some (.int .i64 y.r) := by
        obtain ⟨b', off', e, _, _, _, hf⟩ := hSr.at_ hy1
        cases e
        have := (hf 0 _ rfl).1
        rw [Nat.zero_mul] at this
        exact this
      have c5 : wr.cell? ⟨b, off + (k - 1) * 4 + 2, none⟩ = some (.int .i64 z.m) := by
        obtain ⟨b', off', e, _, _, _, hf⟩ := hSr.at_ hz1
        cases e
        exact (hf 2 _ rfl).1
      clear hSr
      go_wp2_with fail
      clear c0 c1 c2 c3 hx1 hy1 hz1 hy2 hz2
      have hxt := hm x hx2
      clear hm hx2
      obtain ⟨xr, xn, xm, xt⟩ := x
      obtain ⟨yr, yn, ym, yt⟩ := y
      dsimp only at c4 hE hxt ⊢
      generalize hW : wr.alloc (Obj.cells #[Value.int .i64 xr, Value.int .i64 xn, Value.int .i64 xm, Value.string xt] 33) = W
      have hBW : Below w.heap.size w W := by rw [← hW]; exact hB.alloc hB.size _
      have q0 : W.cell? ⟨wr.heap.size, 0, none⟩ = some (.int .i64 xr) := by rw [← hW, World.cell?_alloc_at _ _ _ _ rfl]; rfl
      have q1 : W.cell? ⟨wr.heap.size, 1, none⟩ = some (.int .i64 xn) := by rw [← hW, World.cell?_alloc_at _ _ _ _ rfl]; rfl
      have q2 : W.cell? ⟨wr.heap.size, 2, none⟩ = some (.int .i64 xm) := by rw [← hW, World.cell?_alloc_at _ _ _ _ rfl]; rfl
      have q3 : W.cell? ⟨wr.heap.size, 3, none⟩ = some (.string xt) := by rw [← hW, World.cell?_alloc_at _ _ _ _ rfl]; rfl
      have q4 : W.cell? ⟨b, off, none⟩ = some (.int .i64 yr) := by rw [← hW]; exact lay _ c4
      have q5 : W.cell? ⟨b, off + (k - 1) * 4 + 2, none⟩ = some (.int .i64 z.m) := by rw [← hW]; exact lay _ c5
      have hcls : ∀ w', Below W.heap.size W w' → w'.cell? ⟨wr.heap.size, 0, none⟩ = some (.int .i64 xr) ∧ w'.cell? ⟨wr.heap.size, 1, none⟩ = some (.int .i64 xn) ∧ w'.cell? ⟨wr.heap.size, 2, none⟩ = some (.int .i64 xm) ∧ w'.cell? ⟨wr.heap.size, 3, none⟩ = some (.string xt) ∧ w'.cell? ⟨b, off, none⟩ = some (.int .i64 yr) ∧ w'.cell? ⟨b, off + (k - 1) * 4 + 2, none⟩ = some (.int .i64 z.m) :=
        fun w' h => ⟨keep h q0, keep h q1, keep h q2, keep h q3, keep h q4, keep h q5⟩
      clear q0 q1 q2 q3 q4 q5 c4 c5 hW
      refine wp_region_quiet (C := fun w' => Below W.heap.size W w') (by kernel_rfl) (by kernel_rfl) ((Below.refl _ _).drew) ?_
      by_cases g1 : entB xr xn xm xt = true
      rotate_left
      · replace g1 : entB xr xn xm xt = false := by simpa using g1
        dsimp only [Array.toList]
        iterate 34
          with_reducible refine wpQuiet_step (fun K hK => ?_)
          go_simp
          first
            | (refine hK _ ?_; clear hK K)
            | (apply Exists.intro
               refine ⟨fun w' hw' => ?_, hK _ ?_⟩
               · obtain ⟨z0, z1, z2, z3, z4, z5⟩ := hcls w' hw'
                 go_simp
                 first
                   | rfl
                   | (refine (isEntry_any _ _ _ _ hxt _).mono ?_; rintro e w1 ⟨rfl, hb⟩; exact ⟨rfl, hw'.trans (hb.mono hw'.size)⟩)
               clear hK K)
        refine wpQuiet_nil ?_
        intro W2 hW2
        have hB2 : Below w.heap.size w W2 := Below.on' hBW hW2
        clear hcls
        have hbad : logB l = false := logB_bad hlt (by rw [hE]; simp [g1])
        have HF := Lib.hid hbad
        clear hbad hE
        go_wp2
        go_ret
        exact RV.mk (by rw [HF.out]; rfl) hB2
      by_cases g2 : xr = yr
      rotate_left
      · by_cases g3 : xn = (k : Int) + 1
        · subst g3
          dsimp only [Array.toList]
          iterate 34
            with_reducible refine wpQuiet_step (fun K hK => ?_)
            go_simp
            first
              | (refine hK _ ?_; clear hK K)
              | (apply Exists.intro
                 refine ⟨fun w' hw' => ?_, hK _ ?_⟩
                 · obtain ⟨z0, z1, z2, z3, z4, z5⟩ := hcls w' hw'
                   go_simp
                   first
                     | rfl
                     | (refine (isEntry_any _ _ _ _ hxt _).mono ?_; rintro e w1 ⟨rfl, hb⟩; exact ⟨rfl, hw'.trans (hb.mono hw'.size)⟩)
                 clear hK K)
          refine wpQuiet_nil ?_
          intro W2 hW2
          have hB2 : Below w.heap.size w W2 := Below.on' hBW hW2
          clear hcls
          have hbad : logB l = false := logB_bad hlt (by rw [hE]; simp [g1, g2])
          have HF := Lib.hid hbad
          clear hbad hE
          go_wp2
          go_ret
          exact RV.mk (by rw [HF.out]; rfl) hB2
        · dsimp only [Array.toList]
          iterate 34
            with_reducible refine wpQuiet_step (fun K hK => ?_)
            go_simp
            first
              | (refine hK _ ?_; clear hK K)
              | (apply Exists.intro
                 refine ⟨fun w' hw' => ?_, hK _ ?_⟩
                 · obtain ⟨z0, z1, z2, z3, z4, z5⟩ := hcls w' hw'
                   go_simp
                   first
                     | rfl
                     | (refine (isEntry_any _ _ _ _ hxt _).mono ?_; rintro e w1 ⟨rfl, hb⟩; exact ⟨rfl, hw'.trans (hb.mono hw'.size)⟩)
                 clear hK K)
          refine wpQuiet_nil ?_
          intro W2 hW2
          have hB2 : Below w.heap.size w W2 := Below.on' hBW hW2
          clear hcls
          have hbad : logB l = false := logB_bad hlt (by rw [hE]; simp [g1, g2])
          have HF := Lib.hid hbad
          clear hbad hE
          go_wp2
          go_ret
          exact RV.mk (by rw [HF.out]; rfl) hB2
      subst g2
      by_cases g3 : xn = (k : Int) + 1
      rotate_left
      · dsimp only [Array.toList]
        iterate 34
          with_reducible refine wpQuiet_step (fun K hK => ?_)
          go_simp
          first
            | (refine hK _ ?_; clear hK K)
            | (apply Exists.intro
               refine ⟨fun w' hw' => ?_, hK _ ?_⟩
               · obtain ⟨z0, z1, z2, z3, z4, z5⟩ := hcls w' hw'
                 go_simp
                 first
                   | rfl
                   | (refine (isEntry_any _ _ _ _ hxt _).mono ?_; rintro e w1 ⟨rfl, hb⟩; exact ⟨rfl, hw'.trans (hb.mono hw'.size)⟩)
               clear hK K)
        refine wpQuiet_nil ?_
        intro W2 hW2
        have hB2 : Below w.heap.size w W2 := Below.on' hBW hW2
        clear hcls
        have hbad : logB l = false := logB_bad hlt (by rw [hE]; simp [g1, g3])
        have HF := Lib.hid hbad
        clear hbad hE
        go_wp2
        go_ret
        exact RV.mk (by rw [HF.out]; rfl) hB2
      subst g3
      rcases Nat.eq_zero_or_pos k with rfl | g4
      · replace g1 : entB xr 1 xm xt = true := by simpa using g1
        dsimp only [Array.toList]
        iterate 34
          with_reducible refine wpQuiet_step (fun K hK => ?_)
          go_simp
          first
            | (refine hK _ ?_; clear hK K)
            | (apply Exists.intro
               refine ⟨fun w' hw' => ?_, hK _ ?_⟩
               · obtain ⟨z0, z1, z2, z3, z4, z5⟩ := hcls w' hw'
                 go_simp
                 first
                   | rfl
                   | (refine (isEntry_any _ _ _ _ hxt _).mono ?_; rintro e w1 ⟨rfl, hb⟩; exact ⟨rfl, hw'.trans (hb.mono hw'.size)⟩)
               clear hK K)
        refine wpQuiet_nil ?_
        intro W2 hW2
        have hB2 : Below w.heap.size w W2 := Below.on' hBW hW2
        clear hcls
        have hok : okAt l 0 = true := by rw [hE]; simp [g1]
        have HX : ∀ j, j < 0 + 1 → okAt l j = true := fun j hj => by
          rcases Nat.lt_or_ge j 0 with h | h
          · exact hx j h
          · have : j = 0 := by omega
            subst this; exact hok
        have HX := Lib.hid HX
        clear hok hE hx
        go_wp2
        go_roundw
        case rel => exact ⟨0 + 1, by omega, by go_num, HX.out, hB2⟩
        case measure => simp [intOf]; omega
      have hwm : IntKind.i64.wrap ((k : Int) - 1) = ((k - 1 : Nat) : Int) := by rw [IntWalk.i64_in _ (by omega)]; omega
      have hk1 : k - 1 < l.length := by omega
      have g7 : ¬ k = 0 := by omega
      by_cases g5 : z.m ≤ xm
      rotate_left
      · have g6 : xm < z.m := by omega
        dsimp only [Array.toList]
        iterate 34
          with_reducible refine wpQuiet_step (fun K hK => ?_)
          go_simp
          first
            | (refine hK _ ?_; clear hK K)
            | (apply Exists.intro
               refine ⟨fun w' hw' => ?_, hK _ ?_⟩
               · obtain ⟨z0, z1, z2, z3, z4, z5⟩ := hcls w' hw'
                 go_simp
                 first
                   | rfl
                   | (refine (isEntry_any _ _ _ _ hxt _).mono ?_; rintro e w1 ⟨rfl, hb⟩; exact ⟨rfl, hw'.trans (hb.mono hw'.size)⟩)
               clear hK K)
        refine wpQuiet_nil ?_
        intro W2 hW2
        have hB2 : Below w.heap.size w W2 := Below.on' hBW hW2
        clear hcls
        have hbad : logB l = false := logB_bad hlt (by rw [hE]; simp [g1, g5, g7])
        have HF := Lib.hid hbad
        clear hbad hE
        go_wp2
        go_ret
        exact RV.mk (by rw [HF.out]; rfl) hB2
      dsimp only [Array.toList]
      iterate 34
        with_reducible refine wpQuiet_step (fun K hK => ?_)
        go_simp
        first
          | (refine hK _ ?_; clear hK K)
          | (apply Exists.intro
             refine ⟨fun w' hw' => ?_, hK _ ?_⟩
             · obtain ⟨z0, z1, z2, z3, z4, z5⟩ := hcls w' hw'
               go_simp
               first
                 | rfl
                 | (refine (isEntry_any _ _ _ _ hxt _).mono ?_; rintro e w1 ⟨rfl, hb⟩; exact ⟨rfl, hw'.trans (hb.mono hw'.size)⟩)
             clear hK K)
      refine wpQuiet_nil ?_
      intro W2 hW2
      have hB2 : Below w.heap.size w W2 := Below.on' hBW hW2
      clear hcls
      have hok : okAt l k = true := by rw [hE]; simp [g1, g5]
      have HX : ∀ j, j < k + 1 → okAt l j = true := fun j hj => by
        rcases Nat.lt_or_ge j k with h | h
        · exact hx j h
        · have : j = k := by omega
          subst this; exact hok
      have HX := Lib.hid HX
      clear hok hE hx
      go_wp2
      go_roundw
      case rel => exact ⟨k + 1, by omega, by go_num, HX.out, hB2⟩
      case measure => simp [intOf]; omega
    · have hbad : logB l = decide (l.length ≤ 20) := logB_all fun j hj => hx j (by omega)
      have HF := Lib.hid hbad
      clear hbad hx
      go_wp2
      go_ret
      exact RV.mk (by rw [HF.out]; exact vbool (by rw [Bool.eq_iff_iff]; simp; omega)) hB
set_option maxHeartbeats 4000000 in
theorem lgGood_any (A : Option Addr) (c : Nat) (l : List Ent) (w : World) (hl : l.length ≤ maxLen) (hm : ∀ x ∈ l, x.t.size ≤ maxLen) (hS : Ents w 0 w.heap.size A l) :
    Calls Tryz.prog 55 #[.slice A l.length c] w (RV w (.bool (logB l))) := by
  unfold maxLen at hl
  go_enter Tryz.func55, Tryz.ntmps55
  go_wp2
  go_loopw [7] (fun i wr => ∃ k : Nat, k ≤ l.length ∧ i = .int .i64 k ∧ (∀ j, j < k → okAt l j = true) ∧ Below w.heap.size w wr) (fun i _ => l.length - (intOf i).toNat)
  case atStart => exact ⟨0, Nat.zero_le _, rfl, fun j hj => absurd hj (by omega), Below.refl _ _⟩
  case round =>
    obtain ⟨k, hk, rfl, hx, hB⟩ := hrel
    by_cases hlt : k < l.length
    · obtain ⟨x, hx1, hx2⟩ := get_lt hlt
      obtain ⟨y, hy1, hy2⟩ := get_lt (l := l) (i := 0) (by omega)
      obtain ⟨z, hz1, hz2⟩ := get_lt (l := l) (i := k - 1) (by omega)
      have hE := okAt_eq hx1 hy1 hz1
      have hl0 : 0 < l.length := by omega
      have hwr : IntKind.i64.wrap ((k : Int) + 1) = (k : Int) + 1 := IntWalk.i64_in _ (by omega)
      have hSr := hS.below hB
      obtain ⟨b, off, rfl, hb0, hb1, hb2, hf⟩ := hSr.at_ hx1
      have c0 : wr.cell? ⟨b, off + k * 4, none⟩ = some (.int .i64 x.r) := (hf 0 _ rfl).1
      have c1 : wr.cell? ⟨b, off + k * 4 + 1, none⟩ = some (.int .i64 x.n) := (hf 1 _ rfl).1
      have c2 : wr.cell? ⟨b, off + k * 4 + 2, none⟩ = some (.int .i64 x.m) := (hf 2 _ rfl).1
      have c3 : wr.cell? ⟨b, off + k * 4 + 3, none⟩ = some (.string x.t) := (hf 3 _ rfl).1
      clear hf
      have c4 : wr.cell? ⟨b, off, none⟩ = some (.int .i64 y.r) := by
        obtain ⟨b', off', e, _, _, _, hf⟩ := hSr.at_ hy1
        cases e
        have := (hf 0 _ rfl).1
        rw [Nat.zero_mul] at this
        exact this
      have c5 : wr.cell? ⟨b, off + (k - 1) * 4 + 2, none⟩ = some (.int .i64 z.m) := by
        obtain ⟨b', off', e, _, _, _, hf⟩ := hSr.at_ hz1
        cases e
        exact (hf 2 _ rfl).1
      clear hSr
      go_wp2_with fail
      clear c0 c1 c2 c3 hx1 hy1 hz1 hy2 hz2
      have hxt := hm x hx2
      clear hm hx2
      obtain ⟨xr, xn, xm, xt⟩ := x
      obtain ⟨yr, yn, ym, yt⟩ := y
      dsimp only at c4 hE hxt ⊢
      generalize hW : wr.alloc (Obj.cells #[Value.int .i64 xr, Value.int .i64 xn, Value.int .i64 xm, Value.string xt] 33) = W
      have hBW : Below w.heap.size w W := by rw [← hW]; exact hB.alloc hB.size _
      have q0 : W.cell? ⟨wr.heap.size, 0, none⟩ = some (.int .i64 xr) := by rw [← hW, World.cell?_alloc_at _ _ _ _ rfl]; rfl
      have q1 : W.cell? ⟨wr.heap.size, 1, none⟩ = some (.int .i64 xn) := by rw [← hW, World.cell?_alloc_at _ _ _ _ rfl]; rfl
      have q2 : W.cell? ⟨wr.heap.size, 2, none⟩ = some (.int .i64 xm) := by rw [← hW, World.cell?_alloc_at _ _ _ _ rfl]; rfl
      have q3 : W.cell? ⟨wr.heap.size, 3, none⟩ = some (.string xt) := by rw [← hW, World.cell?_alloc_at _ _ _ _ rfl]; rfl
      have q4 : W.cell? ⟨b, off, none⟩ = some (.int .i64 yr) := by rw [← hW]; exact lay _ c4
      have q5 : W.cell? ⟨b, off + (k - 1) * 4 + 2, none⟩ = some (.int .i64 z.m) := by rw [← hW]; exact lay _ c5
      have hcls : ∀ w', Below W.heap.size W w' → w'.cell? ⟨wr.heap.size, 0, none⟩ = some (.int .i64 xr) ∧ w'.cell? ⟨wr.heap.size, 1, none⟩ = some (.int .i64 xn) ∧ w'.cell? ⟨wr.heap.size, 2, none⟩ = some (.int .i64 xm) ∧ w'.cell? ⟨wr.heap.size, 3, none⟩ = some (.string xt) ∧ w'.cell? ⟨b, off, none⟩ = some (.int .i64 yr) ∧ w'.cell? ⟨b, off + (k - 1) * 4 + 2, none⟩ = some (.int .i64 z.m) :=
        fun w' h => ⟨keep h q0, keep h q1, keep h q2, keep h q3, keep h q4, keep h q5⟩
      clear q0 q1 q2 q3 q4 q5 c4 c5 hW
      refine wp_region_quiet (C := fun w' => Below W.heap.size W w') (by kernel_rfl) (by kernel_rfl) ((Below.refl _ _).drew) ?_
      by_cases g1 : entB xr xn xm xt = true
      rotate_left
      · replace g1 : entB xr xn xm xt = false := by simpa using g1
        dsimp only [Array.toList]
        iterate 34
          with_reducible refine wpQuiet_step (fun K hK => ?_)
          go_simp
          first
            | (refine hK _ ?_; clear hK K)
            | (apply Exists.intro
               refine ⟨fun w' hw' => ?_, hK _ ?_⟩
               · obtain ⟨z0, z1, z2, z3, z4, z5⟩ := hcls w' hw'
                 go_simp
                 first
                   | rfl
                   | (refine (lgOne_any _ _ _ _ hxt _).mono ?_; rintro e w1 ⟨rfl, hb⟩; exact ⟨rfl, hw'.trans (hb.mono hw'.size)⟩)
               clear hK K)
        refine wpQuiet_nil ?_
        intro W2 hW2
        have hB2 : Below w.heap.size w W2 := Below.on' hBW hW2
        clear hcls
        have hbad : logB l = false := logB_bad hlt (by rw [hE]; simp [g1])
        have HF := Lib.hid hbad
        clear hbad hE
        go_wp2
        go_ret
        exact RV.mk (by rw [HF.out]; rfl) hB2
      by_cases g2 : xr = yr
      rotate_left
      · by_cases g3 : xn = (k : Int) + 1
        · subst g3
          dsimp only [Array.toList]
          iterate 34
            with_reducible refine wpQuiet_step (fun K hK => ?_)
            go_simp
            first
              | (refine hK _ ?_; clear hK K)
              | (apply Exists.intro
                 refine ⟨fun w' hw' => ?_, hK _ ?_⟩
                 · obtain ⟨z0, z1, z2, z3, z4, z5⟩ := hcls w' hw'
                   go_simp
                   first
                     | rfl
                     | (refine (lgOne_any _ _ _ _ hxt _).mono ?_; rintro e w1 ⟨rfl, hb⟩; exact ⟨rfl, hw'.trans (hb.mono hw'.size)⟩)
                 clear hK K)
          refine wpQuiet_nil ?_
          intro W2 hW2
          have hB2 : Below w.heap.size w W2 := Below.on' hBW hW2
          clear hcls
          have hbad : logB l = false := logB_bad hlt (by rw [hE]; simp [g1, g2])
          have HF := Lib.hid hbad
          clear hbad hE
          go_wp2
          go_ret
          exact RV.mk (by rw [HF.out]; rfl) hB2
        · dsimp only [Array.toList]
          iterate 34
            with_reducible refine wpQuiet_step (fun K hK => ?_)
            go_simp
            first
              | (refine hK _ ?_; clear hK K)
              | (apply Exists.intro
                 refine ⟨fun w' hw' => ?_, hK _ ?_⟩
                 · obtain ⟨z0, z1, z2, z3, z4, z5⟩ := hcls w' hw'
                   go_simp
                   first
                     | rfl
                     | (refine (lgOne_any _ _ _ _ hxt _).mono ?_; rintro e w1 ⟨rfl, hb⟩; exact ⟨rfl, hw'.trans (hb.mono hw'.size)⟩)
                 clear hK K)
          refine wpQuiet_nil ?_
          intro W2 hW2
          have hB2 : Below w.heap.size w W2 := Below.on' hBW hW2
          clear hcls
          have hbad : logB l = false := logB_bad hlt (by rw [hE]; simp [g1, g2])
          have HF := Lib.hid hbad
          clear hbad hE
          go_wp2
          go_ret
          exact RV.mk (by rw [HF.out]; rfl) hB2
      subst g2
      by_cases g3 : xn = (k : Int) + 1
      rotate_left
      · dsimp only [Array.toList]
        iterate 34
          with_reducible refine wpQuiet_step (fun K hK => ?_)
          go_simp
          first
            | (refine hK _ ?_; clear hK K)
            | (apply Exists.intro
               refine ⟨fun w' hw' => ?_, hK _ ?_⟩
               · obtain ⟨z0, z1, z2, z3, z4, z5⟩ := hcls w' hw'
                 go_simp
                 first
                   | rfl
                   | (refine (lgOne_any _ _ _ _ hxt _).mono ?_; rintro e w1 ⟨rfl, hb⟩; exact ⟨rfl, hw'.trans (hb.mono hw'.size)⟩)
               clear hK K)
        refine wpQuiet_nil ?_
        intro W2 hW2
        have hB2 : Below w.heap.size w W2 := Below.on' hBW hW2
        clear hcls
        have hbad : logB l = false := logB_bad hlt (by rw [hE]; simp [g1, g3])
        have HF := Lib.hid hbad
        clear hbad hE
        go_wp2
        go_ret
        exact RV.mk (by rw [HF.out]; rfl) hB2
      subst g3
      rcases Nat.eq_zero_or_pos k with rfl | g4
      · replace g1 : entB xr 1 xm xt = true := by simpa using g1
        dsimp only [Array.toList]
        iterate 34
          with_reducible refine wpQuiet_step (fun K hK => ?_)
          go_simp
          first
            | (refine hK _ ?_; clear hK K)
            | (apply Exists.intro
               refine ⟨fun w' hw' => ?_, hK _ ?_⟩
               · obtain ⟨z0, z1, z2, z3, z4, z5⟩ := hcls w' hw'
                 go_simp
                 first
                   | rfl
                   | (refine (lgOne_any _ _ _ _ hxt _).mono ?_; rintro e w1 ⟨rfl, hb⟩; exact ⟨rfl, hw'.trans (hb.mono hw'.size)⟩)
               clear hK K)
        refine wpQuiet_nil ?_
        intro W2 hW2
        have hB2 : Below w.heap.size w W2 := Below.on' hBW hW2
        clear hcls
        have hok : okAt l 0 = true := by rw [hE]; simp [g1]
        have HX : ∀ j, j < 0 + 1 → okAt l j = true := fun j hj => by
          rcases Nat.lt_or_ge j 0 with h | h
          · exact hx j h
          · have : j = 0 := by omega
            subst this; exact hok
        have HX := Lib.hid HX
        clear hok hE hx
        go_wp2
        go_roundw
        case rel => exact ⟨0 + 1, by omega, by go_num, HX.out, hB2⟩
        case measure => simp [intOf]; omega
      have hwm : IntKind.i64.wrap ((k : Int) - 1) = ((k - 1 : Nat) : Int) := by rw [IntWalk.i64_in _ (by omega)]; omega
      have hk1 : k - 1 < l.length := by omega
      have g7 : ¬ k = 0 := by omega
      by_cases g5 : z.m ≤ xm
      rotate_left
      · have g6 : xm < z.m := by omega
        dsimp only [Array.toList]
        iterate 34
          with_reducible refine wpQuiet_step (fun K hK => ?_)
          go_simp
          first
            | (refine hK _ ?_; clear hK K)
            | (apply Exists.intro
               refine ⟨fun w' hw' => ?_, hK _ ?_⟩
               · obtain ⟨z0, z1, z2, z3, z4, z5⟩ := hcls w' hw'
                 go_simp
                 first
                   | rfl
                   | (refine (lgOne_any _ _ _ _ hxt _).mono ?_; rintro e w1 ⟨rfl, hb⟩; exact ⟨rfl, hw'.trans (hb.mono hw'.size)⟩)
               clear hK K)
        refine wpQuiet_nil ?_
        intro W2 hW2
        have hB2 : Below w.heap.size w W2 := Below.on' hBW hW2
        clear hcls
        have hbad : logB l = false := logB_bad hlt (by rw [hE]; simp [g1, g5, g7])
        have HF := Lib.hid hbad
        clear hbad hE
        go_wp2
        go_ret
        exact RV.mk (by rw [HF.out]; rfl) hB2
      dsimp only [Array.toList]
      iterate 34
        with_reducible refine wpQuiet_step (fun K hK => ?_)
        go_simp
        first
          | (refine hK _ ?_; clear hK K)
          | (apply Exists.intro
             refine ⟨fun w' hw' => ?_, hK _ ?_⟩
             · obtain ⟨z0, z1, z2, z3, z4, z5⟩ := hcls w' hw'
               go_simp
               first
                 | rfl
                 | (refine (lgOne_any _ _ _ _ hxt _).mono ?_; rintro e w1 ⟨rfl, hb⟩; exact ⟨rfl, hw'.trans (hb.mono hw'.size)⟩)
             clear hK K)
      refine wpQuiet_nil ?_
      intro W2 hW2
      have hB2 : Below w.heap.size w W2 := Below.on' hBW hW2
      clear hcls
      have hok : okAt l k = true := by rw [hE]; simp [g1, g5]
      have HX : ∀ j, j < k + 1 → okAt l j = true := fun j hj => by
        rcases Nat.lt_or_ge j k with h | h
        · exact hx j h
        · have : j = k := by omega
          subst this; exact hok
      have HX := Lib.hid HX
      clear hok hE hx
      go_wp2
      go_roundw
      case rel => exact ⟨k + 1, by omega, by go_num, HX.out, hB2⟩
      case measure => simp [intOf]; omega
    · have hbad : logB l = decide (l.length ≤ 20) := logB_all fun j hj => hx j (by omega)
      have HF := Lib.hid hbad
      clear hbad hx
      go_wp2
      go_ret
      exact RV.mk (by rw [HF.out]; exact vbool (by rw [Bool.eq_iff_iff]; simp; omega)) hB
end Go.Proofs.YtmdmcjhodhphgaaGreatDoor

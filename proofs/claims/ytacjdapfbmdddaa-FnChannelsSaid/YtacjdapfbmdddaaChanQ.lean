/- Searching channels. Conditions: at most 2^20 messages. -/
import Derived.Test.YtacjdapfbmdddaaChanP
import Derived.Test.YtacjdapfbmdddaaChan
namespace Go.Proofs.Ytacjdapfbmdddaa
open Go.RowKit

set_option maxHeartbeats 1000000 in
theorem raFind_any (A : Option Addr) (c : Nat) (l : List Msg) (f : ByteArray) (n : Int) (w : World) (hl : l.length ≤ 1048576) (hS : Msgs w 0 w.heap.size A l) :
    Calls Try.prog 37 #[.slice A l.length c, .string f, .int .i64 n] w (RV w (.int .i64 (idxG (keyP f n) l 0))) := by
  go_enter Try.func37, Try.ntmps37
  go_wp2_with fail
  go_loopw [11] (fun i wr => ∃ k : Nat, k ≤ l.length ∧ i = .int .i64 k ∧ Hid (idxG (keyP f n) (l.drop k) k = idxG (keyP f n) l 0) ∧ Below w.heap.size w wr) (fun i _ => l.length - (intOf i).toNat)
  case atStart => exact ⟨0, Nat.zero_le _, rfl, rfl, Below.refl _ _⟩
  case round =>
    obtain ⟨k, hk, rfl, HF, hB⟩ := hrel
    have hz := hB.size
    by_cases hlt : k < l.length
    · obtain ⟨x, hx, _⟩ := get_lt hlt
      have HC := Lib.hid (idxG_step (p := keyP f n) hx)
      obtain ⟨b, off, rfl, _, _, _, hf⟩ := (hS.below hB).at_ hx
      have c0 : wr.cell? ⟨b, off + k * 3, none⟩ = some (.string x.f) := (hf 0 _ rfl).1
      have c1 : wr.cell? ⟨b, off + k * 3 + 1, none⟩ = some (.int .i64 x.n) := (hf 1 _ rfl).1
      have c2 : wr.cell? ⟨b, off + k * 3 + 2, none⟩ = some (.string x.b) := (hf 2 _ rfl).1
      clear hf hx
      go_wp2
      all_goals first
        | (go_ret
           exact RV.mk (by rw [← HF.out, HC.out, if_pos (by first | (simp [keyP, *]; done) | (simp_all [keyP]; done))]; rfl) (by go_grown))
        | (go_roundw
           case rel => exact ⟨k + 1, by omega, by go_num, Lib.hid ((HC.out.trans (if_neg (by first | (simp [keyP, *]; done) | (simp_all [keyP]; done)))).symm.trans HF.out), by go_grown⟩
           case measure => simp [intOf]; omega)
    · have hd : l.drop k = [] := List.drop_of_length_le (by omega)
      have HE : Hid ((-1 : Int) = idxG (keyP f n) l 0) := Lib.hid (by have := HF.out; rw [hd] at this; exact this)
      clear hd HF
      go_wp2
      go_ret
      exact RV.mk (by rw [← HE.out]; rfl) hB
theorem cntM_step {l : List Msg} {k : Nat} {x : Msg} (hx : l[k]? = some x) (f : ByteArray) : (cntM (l.take (k + 1)) f : Int) = cntM (l.take k) f + if x.f.toList = f.toList then 1 else 0 := by
  rw [take_snoc hx, cntM_append]
  by_cases h : x.f.toList = f.toList <;> simp [cntM, h]
theorem cntM_le (l : List Msg) (f : ByteArray) : cntM l f ≤ l.length := List.length_filter_le _ _
set_option maxHeartbeats 1000000 in
theorem raCount_any (A : Option Addr) (c : Nat) (l : List Msg) (f : ByteArray) (w : World) (hl : l.length ≤ 1048576) (hS : Msgs w 0 w.heap.size A l) :
    Calls Try.prog 32 #[.slice A l.length c, .string f] w (RV w (.int .i64 (cntM l f))) := by
  go_enter Try.func32, Try.ntmps32
  go_wp2_with fail
  go_loopw [5, 10] (fun o i wr => ∃ (k : Nat) (v : Int), k ≤ l.length ∧ i = .int .i64 k ∧ o = .int .i64 v ∧ 0 ≤ v ∧ v ≤ k ∧ Hid (v = cntM (l.take k) f) ∧ Below w.heap.size w wr) (fun _ i _ => l.length - (intOf i).toNat)
  case atStart => exact ⟨0, 0, Nat.zero_le _, rfl, rfl, by omega, by omega, Lib.hid (by simp [cntM]), Below.refl _ _⟩
  case round =>
    obtain ⟨k, v, hk, rfl, rfl, hv0, hv1, HF, hB⟩ := hrel
    have hz := hB.size
    by_cases hlt : k < l.length
    · obtain ⟨x, hx, _⟩ := get_lt hlt
      have HC := Lib.hid (cntM_step hx f)
      obtain ⟨b, off, rfl, _, _, _, hf⟩ := (hS.below hB).at_ hx
      have c0 : wr.cell? ⟨b, off + k * 3, none⟩ = some (.string x.f) := (hf 0 _ rfl).1
      have c1 : wr.cell? ⟨b, off + k * 3 + 1, none⟩ = some (.int .i64 x.n) := (hf 1 _ rfl).1
      have c2 : wr.cell? ⟨b, off + k * 3 + 2, none⟩ = some (.string x.b) := (hf 2 _ rfl).1
      clear hf hx
      by_cases q : x.f.toList = f.toList
      · have HD : Hid (v + 1 = cntM (l.take (k + 1)) f) := Lib.hid (by rw [HC.out, ← HF.out, if_pos q])
        clear HC HF
        go_wp2
        go_roundw
        case rel => exact ⟨k + 1, v + 1, by omega, by go_num, by go_num, by omega, by omega, HD, by go_grown⟩
        case measure => simp [intOf]; omega
      · have HD : Hid (v = cntM (l.take (k + 1)) f) := Lib.hid (by rw [HC.out, ← HF.out, if_neg q]; simp)
        have qb : (x.f.toList == f.toList) = false := by simpa using q
        clear HC HF q
        go_wp2
        go_roundw
        case rel => exact ⟨k + 1, v, by omega, by go_num, by go_num, by omega, by omega, HD, by go_grown⟩
        case measure => simp [intOf]; omega
    · obtain rfl : k = l.length := by omega
      rw [List.take_length] at HF
      go_wp2
      go_ret
      exact RV.mk (by rw [HF.out]; rfl) hB
theorem Sl.pre {α : Type} {E : α → List Value} {k : Nat} {w : World} {lo hi : Nat} {A : Option Addr} {l : List α} (h : Sl E k w lo hi A l) (n : Nat) : Sl E k w lo hi A (l.take n) := fun hn => by
  obtain ⟨b, off, e, c, d, g, f⟩ := h (by rintro rfl; simp at hn)
  refine ⟨b, off, e, c, d, g, fun i x hx => f i x ?_⟩
  rw [List.getElem?_take] at hx
  split at hx
  · exact hx
  · cases hx
theorem someAt_eq {l all : List Msg} {k : Nat} {x : Msg} (hx : l[k]? = some x) : someAt l all k = (memM all x && !memM (l.take k) x) := by simp [someAt, hx]
set_option maxRecDepth 100000 in
set_option maxHeartbeats 4000000 in
theorem areSome_any (A : Option Addr) (c : Nat) (l : List Msg) (A2 : Option Addr) (cc : Nat) (all : List Msg) (w : World) (hl : l.length ≤ 1048576) (hc : l.length ≤ c) (hS : Msgs w 0 w.heap.size A l) (hl2 : all.length ≤ 1048576) (hS2 : Msgs w 0 w.heap.size A2 all) :
    Calls Try.prog 48 #[.slice A l.length c, .slice A2 all.length cc] w (RV w (.bool (someB l all))) := by
  go_enter Try.func48, Try.ntmps48
  go_wp2_with fail
  go_loopw [9] (fun i wr => ∃ k : Nat, k ≤ l.length ∧ i = .int .i64 k ∧ Hid (∀ i, i < k → someAt l all i = true) ∧ Below w.heap.size w wr) (fun i _ => l.length - (intOf i).toNat)
  case atStart => exact ⟨0, Nat.zero_le _, rfl, Lib.hid (fun i hi => absurd hi (Nat.not_lt_zero i)), Below.refl _ _⟩
  case round =>
    obtain ⟨k, hk, rfl, HX, hB⟩ := hrel
    have hz := hB.size
    by_cases hlt : k < l.length
    · obtain ⟨x, hx, _⟩ := get_lt hlt
      have HE := Lib.hid (someAt_eq (all := all) hx)
      have hSr := (hS.below hB)
      obtain ⟨b, off, rfl, _, _, _, hf⟩ := hSr.at_ hx
      have c0 : wr.cell? ⟨b, off + k * 3, none⟩ = some (.string x.f) := (hf 0 _ rfl).1
      have c1 : wr.cell? ⟨b, off + k * 3 + 1, none⟩ = some (.int .i64 x.n) := (hf 1 _ rfl).1
      have c2 : wr.cell? ⟨b, off + k * 3 + 2, none⟩ = some (.string x.b) := (hf 2 _ rfl).1
      clear hf hx
      have hS1 : Msgs wr 0 w.heap.size (some ⟨b, off, none⟩) (l.take k) := hSr.pre k
      have hbox : ∀ W, Below (wr.alloc (.cells #[.string x.f, .int .i64 x.n, .string x.b] 33)).heap.size (wr.alloc (.cells #[.string x.f, .int .i64 x.n, .string x.b] 33)) W → W.cell? ⟨wr.heap.size, 0, none⟩ = some (.string x.f) ∧ W.cell? ⟨wr.heap.size, 1, none⟩ = some (.int .i64 x.n) ∧ W.cell? ⟨wr.heap.size, 2, none⟩ = some (.string x.b) := fun W hb =>
        have H := fun t u hu => keep hb (new_cells (E := Msg.cells) wr 33 x _ rfl t u hu)
        ⟨H 0 _ rfl, H 1 _ rfl, H 2 _ rfl⟩
      have HM : ∀ W, Below (wr.alloc (.cells #[.string x.f, .int .i64 x.n, .string x.b] 33)).heap.size (wr.alloc (.cells #[.string x.f, .int .i64 x.n, .string x.b] 33)) W → Calls Try.prog 55 #[.slice A2 all.length cc, .agg #[.string x.f, .int .i64 x.n, .string x.b]] W (RV W (.bool (memM all x))) := fun W hb => Msg.Contains_any A2 cc all x W hl2 (((hS2.below hB).alloc _).below hb).all
      have HN : ∀ W, Below (wr.alloc (.cells #[.string x.f, .int .i64 x.n, .string x.b] 33)).heap.size (wr.alloc (.cells #[.string x.f, .int .i64 x.n, .string x.b] 33)) W → Calls Try.prog 55 #[.slice (some ⟨b, off, none⟩) k c, .agg #[.string x.f, .int .i64 x.n, .string x.b]] W (RV W (.bool (memM (l.take k) x))) := fun W hb => by
        have := Msg.Contains_any (some ⟨b, off, none⟩) c (l.take k) x W (by rw [List.length_take]; omega) ((hS1.alloc _).below hb).all
        rw [List.length_take, Nat.min_eq_left (by omega)] at this
        exact this
      clear hSr hS1
      have hkc : k ≤ c := by omega
      go_wp2_with fail
      generalize hV : wr.alloc (.cells #[.string x.f, .int .i64 x.n, .string x.b] 33) = V at hbox HM HN ⊢
      have hBV : Below w.heap.size w V := by rw [← hV]; go_grown
      clear c0 c1 c2
      by_cases g1 : memM all x = true
      rotate_left
      · have g1 : memM all x = false := by simpa using g1
        rw [g1] at HM
        have HF : Hid (someB l all = false) := Lib.hid (by rw [someB, upto_no hlt (by rw [HE.out, g1]; rfl)])
        clear HE HX g1
        refine wp_region_quiet (C := fun w' => Below V.heap.size V w') (by kernel_rfl) (by kernel_rfl) ((Below.refl _ _).drew) ?_
        dsimp only [Array.toList]
        iterate 11
          with_reducible refine wpQuiet_step (fun K hK => ?_)
          go_simp
          first
            | (refine hK _ ?_; clear hK K)
            | (apply Exists.intro
               refine ⟨fun w' hw' => ?_, hK _ ?_⟩
               · obtain ⟨z0, z1, z2⟩ := hbox w' hw'
                 have M1 := HM w' hw'
                 have M2 := HN w' hw'
                 go_simp
                 first
                   | rfl
                   | (refine M1.mono ?_; rintro e w1 ⟨rfl, hb⟩; exact ⟨rfl, hw'.trans (hb.mono hw'.size)⟩)
                   | (refine M2.mono ?_; rintro e w1 ⟨rfl, hb⟩; exact ⟨rfl, hw'.trans (hb.mono hw'.size)⟩)
               clear hK K)
        refine wpQuiet_nil ?_
        intro W2 hW2
        have hB2 : Below w.heap.size w W2 := Below.on' hBV hW2
        clear hbox HM HN hW2
        go_wp2
        go_ret
        exact RV.mk (by rw [HF.out]; rfl) hB2
      by_cases g2 : memM (l.take k) x = true
      · rw [g1] at HM
        rw [g2] at HN
        have HF : Hid (someB l all = false) := Lib.hid (by rw [someB, upto_no hlt (by rw [HE.out, g1, g2]; rfl)])
        clear HE HX g1 g2
        refine wp_region_quiet (C := fun w' => Below V.heap.size V w') (by kernel_rfl) (by kernel_rfl) ((Below.refl _ _).drew) ?_
        dsimp only [Array.toList]
        iterate 11
          with_reducible refine wpQuiet_step (fun K hK => ?_)
          go_simp
          first
            | (refine hK _ ?_; clear hK K)
            | (apply Exists.intro
               refine ⟨fun w' hw' => ?_, hK _ ?_⟩
               · obtain ⟨z0, z1, z2⟩ := hbox w' hw'
                 have M1 := HM w' hw'
                 have M2 := HN w' hw'
                 go_simp
                 first
                   | rfl
                   | (refine M1.mono ?_; rintro e w1 ⟨rfl, hb⟩; exact ⟨rfl, hw'.trans (hb.mono hw'.size)⟩)
                   | (refine M2.mono ?_; rintro e w1 ⟨rfl, hb⟩; exact ⟨rfl, hw'.trans (hb.mono hw'.size)⟩)
               clear hK K)
        refine wpQuiet_nil ?_
        intro W2 hW2
        have hB2 : Below w.heap.size w W2 := Below.on' hBV hW2
        clear hbox HM HN hW2
        go_wp2
        go_ret
        exact RV.mk (by rw [HF.out]; rfl) hB2
      · have g2 : memM (l.take k) x = false := by simpa using g2
        rw [g1] at HM
        rw [g2] at HN
        have HX' := Lib.hid (upto_step HX.out (by rw [HE.out, g1, g2]; rfl))
        clear HE HX g1 g2
        refine wp_region_quiet (C := fun w' => Below V.heap.size V w') (by kernel_rfl) (by kernel_rfl) ((Below.refl _ _).drew) ?_
        dsimp only [Array.toList]
        iterate 11
          with_reducible refine wpQuiet_step (fun K hK => ?_)
          go_simp
          first
            | (refine hK _ ?_; clear hK K)
            | (apply Exists.intro
               refine ⟨fun w' hw' => ?_, hK _ ?_⟩
               · obtain ⟨z0, z1, z2⟩ := hbox w' hw'
                 have M1 := HM w' hw'
                 have M2 := HN w' hw'
                 go_simp
                 first
                   | rfl
                   | (refine M1.mono ?_; rintro e w1 ⟨rfl, hb⟩; exact ⟨rfl, hw'.trans (hb.mono hw'.size)⟩)
                   | (refine M2.mono ?_; rintro e w1 ⟨rfl, hb⟩; exact ⟨rfl, hw'.trans (hb.mono hw'.size)⟩)
               clear hK K)
        refine wpQuiet_nil ?_
        intro W2 hW2
        have hB2 : Below w.heap.size w W2 := Below.on' hBV hW2
        clear hbox HM HN hW2
        go_wp2
        go_roundw
        case rel => exact ⟨k + 1, by omega, by go_num, HX', hB2⟩
        case measure => simp [intOf]; omega
    · obtain rfl : k = l.length := by omega
      have HE : Hid (someB l all = true) := Lib.hid (upto_all HX.out)
      clear HX
      go_wp2
      go_ret
      exact RV.mk (by rw [HE.out]; rfl) hB
theorem Msg.neql (x y : Msg) (w : World) : (binOp .neq 33 (.agg #[.string x.f, .int .i64 x.n, .string x.b]) (.agg #[.string y.f, .int .i64 y.n, .string y.b])).run Try.prog w = .ok (.bool (!Msg.eqB x y)) w := by
  go_simp
  by_cases q0 : x.f.toList = y.f.toList <;> by_cases q1 : x.n = y.n <;> by_cases q2 : x.b.toList = y.b.toList <;> simp [Msg.eqB, q0, q1, q2]
theorem withAt_none {l all : List Msg} {k : Nat} {x : Msg} (hx : l[k]? = some x) (hf : all.find? (keyP x.f x.n) = none) : withAt l all k = false := by simp [withAt, hx, hf]
theorem withAt_some {l all : List Msg} {k : Nat} {x y : Msg} (hx : l[k]? = some x) (hf : all.find? (keyP x.f x.n) = some y) : withAt l all k = (Msg.eqB y x && !(l.take k).any (keyP x.f x.n)) := by simp [withAt, hx, hf]
set_option maxRecDepth 100000 in
set_option maxHeartbeats 8000000 in
theorem raWithin_any (A : Option Addr) (c : Nat) (l : List Msg) (A2 : Option Addr) (cc : Nat) (all : List Msg) (w : World) (hl : l.length ≤ 1048576) (hc : l.length ≤ c) (hS : Msgs w 0 w.heap.size A l) (hl2 : all.length ≤ 1048576) (hS2 : Msgs w 0 w.heap.size A2 all) :
    Calls Try.prog 51 #[.slice A l.length c, .slice A2 all.length cc] w (RV w (.bool (withB l all))) := by
  go_enter Try.func51, Try.ntmps51
  go_wp2_with fail
  go_loopw [10] (fun i wr => ∃ k : Nat, k ≤ l.length ∧ i = .int .i64 k ∧ Hid (∀ i, i < k → withAt l all i = true) ∧ Below w.heap.size w wr) (fun i _ => l.length - (intOf i).toNat)
  case atStart => exact ⟨0, Nat.zero_le _, rfl, Lib.hid (fun i hi => absurd hi (Nat.not_lt_zero i)), Below.refl _ _⟩
  case round =>
    obtain ⟨k, hk, rfl, HX, hB⟩ := hrel
    have hz := hB.size
    by_cases hlt : k < l.length
    · obtain ⟨x, hx, _⟩ := get_lt hlt
      have Hx := Lib.hid hx
      have hSr := (hS.below hB)
      obtain ⟨b, off, rfl, _, _, _, hf⟩ := hSr.at_ hx
      have c0 : wr.cell? ⟨b, off + k * 3, none⟩ = some (.string x.f) := (hf 0 _ rfl).1
      have c1 : wr.cell? ⟨b, off + k * 3 + 1, none⟩ = some (.int .i64 x.n) := (hf 1 _ rfl).1
      have c2 : wr.cell? ⟨b, off + k * 3 + 2, none⟩ = some (.string x.b) := (hf 2 _ rfl).1
      clear hf hx
      have hS1 : Msgs wr 0 w.heap.size (some ⟨b, off, none⟩) (l.take k) := hSr.pre k
      have hbox0 : ∀ W, Below (wr.alloc (.cells #[.string x.f, .int .i64 x.n, .string x.b] 33)).heap.size (wr.alloc (.cells #[.string x.f, .int .i64 x.n, .string x.b] 33)) W → W.cell? ⟨wr.heap.size, 0, none⟩ = some (.string x.f) ∧ W.cell? ⟨wr.heap.size, 1, none⟩ = some (.int .i64 x.n) ∧ W.cell? ⟨wr.heap.size, 2, none⟩ = some (.string x.b) := fun W hb =>
        have H := fun t u hu => keep hb (new_cells (E := Msg.cells) wr 33 x _ rfl t u hu)
        ⟨H 0 _ rfl, H 1 _ rfl, H 2 _ rfl⟩
      go_wp2_with fail
      refine (raFind_any A2 cc all x.f x.n _ hl2 ((hS2.below hB).alloc _).all).mono ?_
      rintro e V ⟨rfl, hb⟩
      have hVr : Below wr.heap.size wr V := Below.on' (by go_grown) hb
      have hBV : Below w.heap.size w V := Below.on' hB hVr
      have hbox := fun W (h : Below V.heap.size V W) => hbox0 W (hb.trans (h.mono hb.size))
      have HN0 : ∀ W, Below V.heap.size V W → Calls Try.prog 37 #[.slice (some ⟨b, off, none⟩) k c, .string x.f, .int .i64 x.n] W (RV W (.int .i64 (idxG (keyP x.f x.n) (l.take k) 0))) := fun W hb => by
        have := raFind_any (some ⟨b, off, none⟩) c (l.take k) x.f x.n W (by rw [List.length_take]; omega) ((hS1.below hVr).below hb).all
        rw [List.length_take, Nat.min_eq_left (by omega)] at this
        exact this
      have hS2V := hS2.below hBV
      have hkc : k ≤ c := by omega
      clear hSr hS1 hb hVr hbox0 c0 c1 c2
      rcases find_idx (keyP x.f x.n) all 0 with ⟨e1, hf⟩ | ⟨j, y, hj, e1, hf, _⟩
      · have HF : Hid (withB l all = false) := Lib.hid (by rw [withB, upto_no hlt (withAt_none Hx.out hf)])
        rw [e1]
        clear e1 hf Hx HX
        have HN := HN0
        have hcls := hbox
        clear HN0 hbox
        go_wp2_with fail
        refine wp_region_quiet (C := fun w' => Below V.heap.size V w') (by kernel_rfl) (by kernel_rfl) ((Below.refl _ _).drew) ?_
        dsimp only [Array.toList]
        iterate 21
          with_reducible refine wpQuiet_step (fun K hK => ?_)
          go_simp
          first
            | (refine hK _ ?_; clear hK K)
            | (apply Exists.intro
               refine ⟨fun w' hw' => ?_, hK _ ?_⟩
               · obtain ⟨z0, z1, z2⟩ := hcls w' hw'
                 have M2 := HN w' hw'
                 have hqq : True := trivial
                 first
                   | (go_simp; rfl)
                   | (simp only [Sem.run] at hqq; exact hqq)
                   | (go_simp; refine M2.mono ?_; rintro e w1 ⟨rfl, hb⟩; exact ⟨rfl, hw'.trans (hb.mono hw'.size)⟩)
               clear hK K)
        refine wpQuiet_nil ?_
        intro W2 hW2
        have hB2 : Below w.heap.size w W2 := Below.on' hBV hW2
        clear hcls HN hW2
        go_wp2
        go_ret
        exact RV.mk (by rw [HF.out]; rfl) hB2
      · have HE := Lib.hid (withAt_some Hx.out hf)
        rw [e1]
        have hjl : j < all.length := (List.getElem?_eq_some_iff.1 hj).1
        obtain ⟨b2, off2, rfl, _, _, _, hg⟩ := hS2V.at_ hj
        have d0 : V.cell? ⟨b2, off2 + j * 3, none⟩ = some (.string y.f) := (hg 0 _ rfl).1
        have d1 : V.cell? ⟨b2, off2 + j * 3 + 1, none⟩ = some (.int .i64 y.n) := (hg 1 _ rfl).1
        have d2 : V.cell? ⟨b2, off2 + j * 3 + 2, none⟩ = some (.string y.b) := (hg 2 _ rfl).1
        rw [Nat.zero_add]
        have hcls := fun W (h : Below V.heap.size V W) => And.intro (hbox W h) (And.intro (keep h d0) (And.intro (keep h d1) (keep h d2)))
        have heq := Msg.neql y x
        clear e1 hf Hx hj hg hbox d0 d1 d2 hS2V
        by_cases g1 : Msg.eqB y x = true
        rotate_left
        · have g1 : Msg.eqB y x = false := by simpa using g1
          have HF : Hid (withB l all = false) := Lib.hid (by rw [withB, upto_no hlt (by rw [HE.out, g1]; rfl)])
          rw [g1] at heq
          have HN := HN0
          clear HE HX g1 HN0
          go_wp2_with fail
          refine wp_region_quiet (C := fun w' => Below V.heap.size V w') (by kernel_rfl) (by kernel_rfl) ((Below.refl _ _).drew) ?_
          dsimp only [Array.toList]
          iterate 21
            with_reducible refine wpQuiet_step (fun K hK => ?_)
            go_simp
            first
              | (refine hK _ ?_; clear hK K)
              | (apply Exists.intro
                 refine ⟨fun w' hw' => ?_, hK _ ?_⟩
                 · obtain ⟨⟨z0, z1, z2⟩, z3, z4, z5⟩ := hcls w' hw'
                   have M2 := HN w' hw'
                   have hqq := heq w'
                   first
                     | (go_simp; rfl)
                     | (simp only [Sem.run] at hqq; exact hqq)
                     | (go_simp; refine M2.mono ?_; rintro e w1 ⟨rfl, hb⟩; exact ⟨rfl, hw'.trans (hb.mono hw'.size)⟩)
                 clear hK K)
          refine wpQuiet_nil ?_
          intro W2 hW2
          have hB2 : Below w.heap.size w W2 := Below.on' hBV hW2
          clear hcls HN hW2 heq
          go_wp2
          go_ret
          exact RV.mk (by rw [HF.out]; rfl) hB2
        rcases find_idx (keyP x.f x.n) (l.take k) 0 with ⟨e2, hf2⟩ | ⟨j2, y2, hj2, e2, hf2, hp2⟩
        · have HX' := Lib.hid (upto_step HX.out (by
            rw [HE.out, g1]
            have : (l.take k).any (keyP x.f x.n) = false := by rw [← idxG_any, e2]; rfl
            rw [this]; rfl))
          rw [g1] at heq
          rw [e2] at HN0
          have HN := HN0
          clear HE HX g1 HN0 e2 hf2
          go_wp2_with fail
          refine wp_region_quiet (C := fun w' => Below V.heap.size V w') (by kernel_rfl) (by kernel_rfl) ((Below.refl _ _).drew) ?_
          dsimp only [Array.toList]
          iterate 21
            with_reducible refine wpQuiet_step (fun K hK => ?_)
            go_simp
            first
              | (refine hK _ ?_; clear hK K)
              | (apply Exists.intro
                 refine ⟨fun w' hw' => ?_, hK _ ?_⟩
                 · obtain ⟨⟨z0, z1, z2⟩, z3, z4, z5⟩ := hcls w' hw'
                   have M2 := HN w' hw'
                   have hqq := heq w'
                   first
                     | (go_simp; rfl)
                     | (simp only [Sem.run] at hqq; exact hqq)
                     | (go_simp; refine M2.mono ?_; rintro e w1 ⟨rfl, hb⟩; exact ⟨rfl, hw'.trans (hb.mono hw'.size)⟩)
                 clear hK K)
          refine wpQuiet_nil ?_
          intro W2 hW2
          have hB2 : Below w.heap.size w W2 := Below.on' hBV hW2
          clear hcls HN hW2 heq
          go_wp2
          go_roundw
          case rel => exact ⟨k + 1, by omega, by go_num, HX', hB2⟩
          case measure => simp [intOf]; omega
        · have HF : Hid (withB l all = false) := Lib.hid (by
            rw [withB, upto_no hlt]
            rw [HE.out, g1]
            have : (l.take k).any (keyP x.f x.n) = true := List.any_eq_true.2 ⟨y2, List.mem_of_getElem? hj2, hp2⟩
            rw [this]; rfl)
          rw [g1] at heq
          rw [e2, Nat.zero_add] at HN0
          have HN := HN0
          clear HE HX g1 HN0 e2 hf2 hj2 hp2
          go_wp2_with fail
          refine wp_region_quiet (C := fun w' => Below V.heap.size V w') (by kernel_rfl) (by kernel_rfl) ((Below.refl _ _).drew) ?_
          dsimp only [Array.toList]
          iterate 21
            with_reducible refine wpQuiet_step (fun K hK => ?_)
            go_simp
            first
              | (refine hK _ ?_; clear hK K)
              | (apply Exists.intro
                 refine ⟨fun w' hw' => ?_, hK _ ?_⟩
                 · obtain ⟨⟨z0, z1, z2⟩, z3, z4, z5⟩ := hcls w' hw'
                   have M2 := HN w' hw'
                   have hqq := heq w'
                   first
                     | (go_simp; rfl)
                     | (simp only [Sem.run] at hqq; exact hqq)
                     | (go_simp; refine M2.mono ?_; rintro e w1 ⟨rfl, hb⟩; exact ⟨rfl, hw'.trans (hb.mono hw'.size)⟩)
                 clear hK K)
          refine wpQuiet_nil ?_
          intro W2 hW2
          have hB2 : Below w.heap.size w W2 := Below.on' hBV hW2
          clear hcls HN hW2 heq
          go_wp2
          go_ret
          exact RV.mk (by rw [HF.out]; rfl) hB2
    · obtain rfl : k = l.length := by omega
      have HE : Hid (withB l all = true) := Lib.hid (upto_all HX.out)
      clear HX
      go_wp2
      go_ret
      exact RV.mk (by rw [HE.out]; rfl) hB
end Go.Proofs.Ytacjdapfbmdddaa

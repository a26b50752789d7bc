/- The live entries of a log: what the program and the reference find. Conditions: lists and texts of at most 2^20; the listed variables as Said has them. -/
import Derived.Test.YtmdmcjhodhphgaaGreatDoorLiveP
import Derived.Test.YtmdmcjhodhphgaaGreatDoorRn
import Derived.Test.YtmdmcjhodhphgaaGreatDoorDecP
import Derived.Test.YtmdmcjhodhphgaaGreatDoorInts
import Derived.Test.YtmdmcjhodhphgaaGreatDoorBools
import Derived.Test.YtmdmcjhodhphgaaGreatDoorPost
import Derived.BigQuiet
namespace Go.Proofs.YtmdmcjhodhphgaaGreatDoor
open Go.RowKit

/-- A list of bools filled up with false. -/
def padL (F : List Bool) (n : Nat) : List Bool := F ++ List.replicate (n - F.length) false
theorem padL_len {F : List Bool} {n : Nat} (h : F.length ≤ n) : (padL F n).length = n := by simp [padL]; omega
theorem padL_set {F : List Bool} {n : Nat} {v : Bool} (h : F.length < n) : (padL F n).set F.length v = padL (F ++ [v]) n := by
  unfold padL
  rw [List.set_append_right _ _ (Nat.le_refl _), Nat.sub_self, show n - F.length = (n - (F ++ [v]).length) + 1 by simp; omega, List.replicate_succ, List.set_cons_zero, List.append_assoc]
  rfl
theorem padL_setL {F : List Bool} {n j : Nat} {v : Bool} (h : j < F.length) : (padL F n).set j v = padL (F.set j v) n := by
  unfold padL
  rw [List.set_append_left _ _ h, List.length_set]
theorem padL_get {F : List Bool} {n j : Nat} (h : j < F.length) : (padL F n)[j]? = F[j]? := by
  unfold padL
  rw [List.getElem?_append_left h]
theorem padL_false {F : List Bool} {n : Nat} (h : F.length < n) : padL F n = padL (F ++ [false]) n := by
  unfold padL
  rw [show n - F.length = (n - (F ++ [false]).length) + 1 by simp; omega, List.replicate_succ, List.append_assoc]
  rfl
theorem padL_full {F : List Bool} : padL F F.length = F := by simp [padL]
theorem Bools.set {w : World} {lo hi b off : Nat} {l : List Bool} (h : Bools w lo hi (some ⟨b, off, none⟩) l) {i : Nat} (hi' : i < l.length) (v : Bool) : Bools (w.setCell ⟨b, off + i, none⟩ (.bool v)) lo hi (some ⟨b, off, none⟩) (l.set i v) := by
  have := Sl.set1 (j := 0) (y := v) (u := .bool v) h (List.getElem?_eq_getElem hi') Bools.len (by omega) rfl
  rw [Nat.mul_one, Nat.add_zero] at this
  exact this
theorem flat_bools : ∀ n : Nat, (List.replicate n false).flatMap Bools.cells = List.replicate n (Value.bool false)
  | 0 => rfl
  | n + 1 => by rw [List.replicate_succ, List.flatMap_cons, flat_bools n]; rfl
theorem made_bools (n : Nat) : (madeCells (Value.bool false).cells (n * 1)).toList = (List.replicate n false).flatMap Bools.cells := by
  rw [flat_bools, Nat.mul_one]
  apply List.ext_getElem
  · simp [madeCells]
  · intro i h1 h2
    simp [madeCells, Value.cells, Nat.mod_one]
def livT (l : List Ent) : List Int := if logB l = true then liveR l else []
theorem livT_len (l : List Ent) : (livT l).length ≤ l.length := by
  unfold livT
  split
  · exact liveR_len l
  · exact Nat.zero_le _
set_option maxRecDepth 100000 in
set_option maxHeartbeats 8000000 in
theorem lgLive_any (Al : Option Addr) (cl : Nat) (l : List Ent) (w : World) (hll : l.length ≤ 1048576) (hml : ∀ x ∈ l, x.t.size ≤ 1048576) (hSl : Ents w 0 w.heap.size Al l) (hcl : l.length ≤ cl) : Calls Tryz.prog 64 #[.slice Al l.length cl] w (RS1 Bools.cells 1 w (liveF l)) := by
  obtain ⟨i0, hi0, hz0, hz1, hz2⟩ := info_parts Bools.info
  go_enter Tryz.func64, Tryz.ntmps64
  go_wp2_with (at_make; refine wpList_make_full _ rfl (.tmp 8) (.tmp 8) _ rfl w.heap.size 4 i0 _ 1 Tryz.underlying77 hi0 hz0 hz1 .i64 .i64 _ _ l.length rfl rfl rfl rfl (by rw [hz2]; omega) (by unfold maxLen; omega) (Nat.le_refl _) ?_; intro w1 hown hg)
  have hO : Own Bools.cells 1 4 w1 w.heap.size (some ⟨w.heap.size, 0, none⟩) l.length (List.replicate l.length false) := by
    unfold Own
    rw [List.length_replicate, ← made_bools]
    exact hown
  have hS0 : Bools w1 w.heap.size w1.heap.size (some ⟨w.heap.size, 0, none⟩) (padL [] l.length) := by
    have := hO.sl Bools.len
    simpa [padL] using this
  have hB1 : Below w.heap.size w w1 := (Below.refl _ _).grown hg (Nat.le_refl _) (by simp)
  clear hown hg hi0 hz0 hz1 hz2 hO
  go_loopw [12] (fun i wr => ∃ (k : Nat) (L : List Bool), k ≤ l.length ∧ i = .int .i64 k ∧ L.length = l.length ∧ Hid (L = padL (liveF (l.take k)) l.length) ∧ Bools wr w.heap.size wr.heap.size (some ⟨w.heap.size, 0, none⟩) L ∧ Below w.heap.size w wr) (fun i _ => l.length - (intOf i).toNat)
  case atStart => exact ⟨0, _, Nat.zero_le _, rfl, padL_len (Nat.zero_le _), Lib.hid rfl, hS0, hB1⟩
  case round =>
    obtain ⟨k, L, hk, rfl, hLl, HL, hT, hB⟩ := hrel
    clear hS0 hB1
    by_cases hlt : k < l.length
    · obtain ⟨x, hx, hxm⟩ := get_lt hlt
      have hxt := hml x hxm
      have HF := Lib.hid (show liveF (l.take (k + 1)) = liveStep (liveF (l.take k)) x.t by rw [take_snoc hx, liveF_snoc])
      have hFl : Hid ((liveF (l.take k)).length = k) := Lib.hid (by rw [liveF_len, List.length_take]; omega)
      obtain ⟨b, off, rfl, _, _, _, hf⟩ := (hSl.below hB).at_ hx
      have c0 : wr.cell? ⟨b, off + k * 4, none⟩ = some (.int .i64 x.r) := (hf 0 _ rfl).1
      have c1 : wr.cell? ⟨b, off + k * 4 + 1, none⟩ = some (.int .i64 x.n) := (hf 1 _ rfl).1
      have c2 : wr.cell? ⟨b, off + k * 4 + 2, none⟩ = some (.int .i64 x.m) := (hf 2 _ rfl).1
      have c3 : wr.cell? ⟨b, off + k * 4 + 3, none⟩ = some (.string x.t) := (hf 3 _ rfl).1
      clear hf hx
      have hkL : k < L.length := by omega
      obtain ⟨v, hv, _⟩ := get_lt hkL
      have hT1 := Bools.set hT hkL true
      rw [Nat.zero_add] at hT1
      have hT2 : Bools ((wr.setCell ⟨w.heap.size, k, none⟩ (.bool true)).alloc (Obj.cells #[.int .i64 x.r, .int .i64 x.n, .int .i64 x.m, .string x.t] 33)) w.heap.size ((wr.setCell ⟨w.heap.size, k, none⟩ (.bool true)).alloc (Obj.cells #[.int .i64 x.r, .int .i64 x.n, .int .i64 x.m, .string x.t] 33)).heap.size (some ⟨w.heap.size, 0, none⟩) (L.set k true) := (hT1.alloc _).mono (Nat.le_refl _) (by simp [World.setCell]) (Nat.le_refl _)
      obtain ⟨_, _, e, _, _, _, d0, d1⟩ := Bools.at1 hT hv
      cases e
      rw [Nat.zero_add] at d0 d1
      have hgl : w.heap.size < wr.heap.size := World.block_lt_of_cell? _ _ d0
      have HL1 : Hid (L.set k true = padL (liveF (l.take k) ++ [true]) l.length) := Lib.hid (by
        have := padL_set (v := true) (show (liveF (l.take k)).length < l.length by rw [hFl.out]; exact hlt)
        rw [hFl.out] at this
        rw [HL.out, this])
      have HG : Hid (∀ j, j < k → (L.set k true)[j]? = (liveF (l.take k))[j]?) := Lib.hid (fun j hj => by
        rw [HL1.out, padL_get (by simp [hFl.out]; omega), List.getElem?_append_left (by rw [hFl.out]; exact hj)])
      have hB2 : Below w.heap.size w ((wr.setCell ⟨w.heap.size, k, none⟩ (.bool true)).alloc (Obj.cells #[.int .i64 x.r, .int .i64 x.n, .int .i64 x.m, .string x.t] 33)) := by go_grown
      have hbox : ((wr.setCell ⟨w.heap.size, k, none⟩ (.bool true)).alloc (Obj.cells #[.int .i64 x.r, .int .i64 x.n, .int .i64 x.m, .string x.t] 33)).cell? ⟨wr.heap.size, 3, none⟩ = some (.string x.t) := by
        rw [World.cell?_alloc_at _ _ _ _ (by simp [World.setCell])]; rfl
      have hkc : k ≤ cl := by omega
      go_wp2_with fail
      have hLs : (L.set k true).length = l.length := by rw [List.length_set]; exact hLl
      generalize L.set k true = L1 at hT2 HL1 HG hLs
      generalize (wr.setCell ⟨w.heap.size, k, none⟩ (.bool true)).alloc (Obj.cells #[.int .i64 x.r, .int .i64 x.n, .int .i64 x.m, .string x.t] 33) = w2 at hT2 hB2 hbox ⊢
      generalize hEb : wr.heap.size = eb at hbox
      clear c0 c1 c2 c3 hT hT1 hv d0 d1 HL hB hkL hLl hEb hgl
      generalize x.t = t at HF hbox hxt
      clear hxm
      go_loopw [24] (fun i wr => ∃ j : Nat, j ≤ k ∧ i = .int .i64 j ∧ Hid (∀ q, q < j → (liveF (l.take k))[q]? = some true → t.toList ≠ (canT (q + 1)).toList) ∧ Below w2.heap.size w2 wr) (fun i _ => k - (intOf i).toNat)
      case atStart => exact ⟨0, Nat.zero_le _, rfl, Lib.hid (fun q hq => absurd hq (Nat.not_lt_zero q)), Below.refl _ _⟩
      case round =>
        obtain ⟨j, hj, rfl, HJ, hBj⟩ := hrel
        have hB3 := Below.on' hB2 hBj
        have hT3 := (hT2.below hBj).mono (Nat.le_refl _) hBj.size (Nat.le_refl _)
        have hbox3 := keep hBj hbox
        by_cases hjk : j < k
        · obtain ⟨v, hv, _⟩ := get_lt (show j < L1.length by omega)
          obtain ⟨_, _, e, _, _, _, d0, d1⟩ := Bools.at1 hT3 hv
          cases e
          rw [Nat.zero_add] at d0 d1
          have hvF : Hid ((liveF (l.take k))[j]? = some v) := Lib.hid ((HG.out j hjk).symm.trans hv)
          have hw1 : IntKind.i64.wrap ((j : Int) + 1) = (j : Int) + 1 := IntWalk.i64_in _ (by omega)
          have hsz := numT_size (j + 1)
          have hc : ∀ W, Calls Tryz.prog 65 #[.int .i64 ((j : Int) + 1)] W (RV W (.string (numT (j + 1)))) := fun W => (show ((j + 1 : Nat) : Int) = (j : Int) + 1 from rfl) ▸ l1Num_any (j + 1) (by omega) W
          have HT : Hid (canT (j + 1) = ⟨#[99, 97, 110, 99, 101, 108, 32]⟩ ++ numT (j + 1)) := Lib.hid rfl
          generalize numT (j + 1) = T at hc HT hsz
          have hjL : j < l.length := by omega
          have hcls : ∀ w', Below wr.heap.size wr w' → w'.cell? ⟨w.heap.size, j, none⟩ = some (.bool v) ∧ w'.cell? ⟨eb, 3, none⟩ = some (.string t) := fun w' h => ⟨keep h d0, keep h hbox3⟩
          clear d0 d1 hv
          cases v with
          | false =>
            have HJ' : Hid (∀ q, q < j + 1 → (liveF (l.take k))[q]? = some true → t.toList ≠ (canT (q + 1)).toList) := Lib.hid (fun q hq h => by
              by_cases hqj : q < j
              · exact HJ.out q hqj h
              · obtain rfl : q = j := by omega
                rw [hvF.out] at h; cases h)
            clear HJ hvF HT hT3 hbox3
            go_wp2_with fail
            refine wp_region_quiet (C := fun w' => Below wr.heap.size wr w') (by kernel_rfl) (by kernel_rfl) ((Below.refl _ _).drew) ?_
            dsimp only [Array.toList]
            iterate 13
              with_reducible refine wpQuiet_step (fun K hK => ?_)
              go_simp
              first
                | (refine hK _ ?_; clear hK K)
                | (apply Exists.intro
                   refine ⟨fun w' hw' => ?_, hK _ ?_⟩
                   · obtain ⟨y0, y1⟩ := hcls w' hw'
                     go_simp
                     first
                       | rfl
                       | ((with_reducible refine (hc _).mono ?_); rintro e w1 ⟨rfl, hb⟩; exact ⟨rfl, hw'.trans (hb.mono hw'.size)⟩)
                   clear hK K)
            refine wpQuiet_nil ?_
            intro W2 hW2
            have hBW : Below w2.heap.size w2 W2 := Below.on' hBj hW2
            clear hcls hc
            go_wp2
            go_roundw
            case rel => exact ⟨j + 1, by omega, by go_num, HJ', hBW⟩
            case measure => simp [intOf]; omega
          | true =>
            have hs1 : 7 + T.size ≤ 9223372036854775807 := by omega
            by_cases hq : t.toList = ((⟨#[99, 97, 110, 99, 101, 108, 32]⟩ : ByteArray) ++ T).toList
            · have HS : Hid (liveF (l.take (k + 1)) = (liveF (l.take k)).set j false ++ [false]) := Lib.hid (by rw [HF.out]; exact liveStep_hit hvF.out (by rw [HT.out]; exact hq))
              have HL2 : Hid ((L1.set j false).set k false = padL (liveF (l.take (k + 1))) l.length) := Lib.hid (by
                have h1 := hFl.out
                rw [HL1.out, HS.out, padL_setL (by simp [h1]; omega), List.set_append_left _ _ (by rw [h1]; exact hjk), padL_setL (by simp [h1]), List.set_append_right _ _ (by simp [h1])]
                simp [h1])
              clear HJ hvF HT HS
              go_wp2_with fail
              refine wp_region_quiet (C := fun w' => Below wr.heap.size wr w') (by kernel_rfl) (by kernel_rfl) ((Below.refl _ _).drew) ?_
              dsimp only [Array.toList]
              iterate 13
                with_reducible refine wpQuiet_step (fun K hK => ?_)
                go_simp
                first
                  | (refine hK _ ?_; clear hK K)
                  | (apply Exists.intro
                     refine ⟨fun w' hw' => ?_, hK _ ?_⟩
                     · obtain ⟨y0, y1⟩ := hcls w' hw'
                       go_simp
                       first
                         | rfl
                         | (rw [if_neg (by omega)]; exact ⟨rfl, rfl⟩)
                         | ((with_reducible refine (hc _).mono ?_); rintro e w1 ⟨rfl, hb⟩; exact ⟨rfl, hw'.trans (hb.mono hw'.size)⟩)
                     clear hK K)
              refine wpQuiet_nil ?_
              intro W2 hW2
              have hBW : Below w2.heap.size w2 W2 := Below.on' hBj hW2
              have hBw : Below w.heap.size w W2 := Below.on' hB2 hBW
              have hT4 := (hT2.below hBW).mono (Nat.le_refl _) hBW.size (Nat.le_refl _)
              obtain ⟨_, _, e, _, _, _, q0, q1⟩ := Bools.at1 hT4 (List.getElem?_eq_getElem (show j < L1.length by omega))
              cases e
              rw [Nat.zero_add] at q0 q1
              have hT5 := Bools.set hT4 (show j < L1.length by omega) false
              have hT6 := Bools.set hT5 (show k < (L1.set j false).length by rw [List.length_set]; omega) false
              obtain ⟨_, _, e, _, _, _, r0, r1⟩ := Bools.at1 hT5 (List.getElem?_eq_getElem (show k < (L1.set j false).length by rw [List.length_set]; omega))
              cases e
              rw [Nat.zero_add] at r0 r1 hT6
              rw [Nat.zero_add] at hT6 r0 r1
              clear hcls hc hT3 hbox3 hT4 hT5
              go_wp2
              go_roundw
              case rel => exact ⟨k + 1, _, by omega, by go_num, by rw [List.length_set, List.length_set]; exact hLs, HL2, hT6.mono (Nat.le_refl _) (by simp [World.setCell]) (Nat.le_refl _), by go_grown⟩
              case measure => simp [intOf]; omega
            · have HJ' : Hid (∀ q, q < j + 1 → (liveF (l.take k))[q]? = some true → t.toList ≠ (canT (q + 1)).toList) := Lib.hid (fun q hq' h => by
                by_cases hqj : q < j
                · exact HJ.out q hqj h
                · obtain rfl : q = j := by omega
                  rw [HT.out]
                  exact hq)
              have hq' : (t.toList == ((⟨#[99, 97, 110, 99, 101, 108, 32]⟩ : ByteArray) ++ T).toList) = false := by simpa using hq
              clear HJ hvF HT hT3 hbox3 hq
              go_wp2_with fail
              refine wp_region_quiet (C := fun w' => Below wr.heap.size wr w') (by kernel_rfl) (by kernel_rfl) ((Below.refl _ _).drew) ?_
              dsimp only [Array.toList]
              iterate 13
                with_reducible refine wpQuiet_step (fun K hK => ?_)
                go_simp
                first
                  | (refine hK _ ?_; clear hK K)
                  | (apply Exists.intro
                     refine ⟨fun w' hw' => ?_, hK _ ?_⟩
                     · obtain ⟨y0, y1⟩ := hcls w' hw'
                       go_simp
                       first
                         | rfl
                         | (rw [if_neg (by omega)]; exact ⟨rfl, rfl⟩)
                         | ((with_reducible refine (hc _).mono ?_); rintro e w1 ⟨rfl, hb⟩; exact ⟨rfl, hw'.trans (hb.mono hw'.size)⟩)
                     clear hK K)
              refine wpQuiet_nil ?_
              intro W2 hW2
              have hBW : Below w2.heap.size w2 W2 := Below.on' hBj hW2
              clear hcls hc
              go_wp2
              go_roundw
              case rel => exact ⟨j + 1, by omega, by go_num, HJ', hBW⟩
              case measure => simp [intOf]; omega
        · obtain rfl : j = k := by omega
          have HS : Hid (L1 = padL (liveF (l.take (j + 1))) l.length) := Lib.hid (by
            rw [HL1.out, HF.out, liveStep_miss (fun q h => HJ.out q (by have := (List.getElem?_eq_some_iff.1 h).1; rw [hFl.out] at this; exact this) h)])
          clear HJ HF HL1 HG
          go_wp2
          go_roundw
          case rel => exact ⟨j + 1, L1, by omega, by go_num, hLs, HS, hT3, hB3⟩
          case measure => simp [intOf]; omega
    · obtain rfl : k = l.length := by omega
      have HE : Hid (L = liveF l) := Lib.hid (by
        have h1 : l.take l.length = l := List.take_length
        have h2 := liveF_len l
        rw [HL.out, h1]
        rw [← h2]
        exact padL_full)
      clear HL
      go_wp2
      go_ret
      exact RS1.of HE.out.symm hLl.symm hT (Nat.le_refl _) (by omega) hB
theorem can_pre {l p : List UInt8} (h : Lib.hasPrefix l p = true) : l = p ++ Lib.trimPrefix l p := by
  obtain ⟨r, rfl⟩ := List.isPrefixOf_iff_prefix.1 h
  rw [Lib.trimPrefix, if_pos h, List.drop_left]
theorem can_has (p r : List UInt8) : Lib.hasPrefix (p ++ r) p = true := List.isPrefixOf_iff_prefix.2 ⟨r, rfl⟩
theorem can_trim (p r : List UInt8) : Lib.trimPrefix (p ++ r) p = r := by rw [Lib.trimPrefix, if_pos (can_has p r), List.drop_left]
theorem not_get {F : List Bool} {n j : Nat} (h : j < F.length) : (padL (F.map fun b => !b) n)[j]? = F[j]?.map fun b => !b := by rw [padL_get (by simpa using h), List.getElem?_map]
set_option maxRecDepth 100000 in
set_option maxHeartbeats 8000000 in
theorem liveEntries_own (Al : Option Addr) (cl : Nat) (l : List Ent) (w : World) (hll : l.length ≤ 1048576) (hml : ∀ x ∈ l, x.t.size ≤ 1048576) (hSl : Ents w 0 w.heap.size Al l) (hS : Said w) : Calls Tryz.prog 61 #[.slice Al l.length cl] w (RO1 Ints.cells 1 3 w (liveR l)) := by
  obtain ⟨j0, hj0, hy0, hy1, hy2⟩ := info_parts Bools.info
  obtain ⟨i0, hi0, hz0, hz1, hz2⟩ := info_parts Ints.info
  go_enter Tryz.func61, Tryz.ntmps61
  go_wp2_with (at_make; refine wpList_make_full _ rfl (.tmp 14) (.tmp 14) _ rfl w.heap.size 4 j0 _ 1 Tryz.underlying77 hj0 hy0 hy1 .i64 .i64 _ _ l.length rfl rfl rfl rfl (by rw [hy2]; omega) (by unfold maxLen; omega) (Nat.le_refl _) ?_; intro w1 hown hg)
  have hO : Own Bools.cells 1 4 w1 w.heap.size (some ⟨w.heap.size, 0, none⟩) l.length (List.replicate l.length false) := by
    unfold Own
    rw [List.length_replicate, ← made_bools]
    exact hown
  have hS0 : Bools w1 w.heap.size w1.heap.size (some ⟨w.heap.size, 0, none⟩) (padL [] l.length) := by
    have := hO.sl Bools.len
    simpa [padL] using this
  have hB1 : Below w.heap.size w w1 := (Below.refl _ _).grown hg (Nat.le_refl _) (by simp)
  clear hown hg hj0 hy0 hy1 hy2 hO
  go_loopw [18] (fun i wr => ∃ (k : Nat) (G : List Bool), k ≤ l.length ∧ i = .int .i64 k ∧ G.length = l.length ∧ Hid (G = padL ((liveF (l.take k)).map fun b => !b) l.length) ∧ Bools wr w.heap.size wr.heap.size (some ⟨w.heap.size, 0, none⟩) G ∧ Below w.heap.size w wr) (fun i _ => l.length - (intOf i).toNat)
  case atStart => exact ⟨0, _, Nat.zero_le _, rfl, padL_len (Nat.zero_le _), Lib.hid rfl, hS0, hB1⟩
  case round =>
    obtain ⟨k, G, hk, rfl, hLG, HG, hT, hB⟩ := hrel
    clear hS0 hB1
    by_cases hlt : k < l.length
    · obtain ⟨x, hx, hxm⟩ := get_lt hlt
      have hxt := hml x hxm
      have HF := Lib.hid (show liveF (l.take (k + 1)) = liveStep (liveF (l.take k)) x.t by rw [take_snoc hx, liveF_snoc])
      have hFl : Hid ((liveF (l.take k)).length = k) := Lib.hid (by rw [liveF_len, List.length_take]; omega)
      obtain ⟨b, off, rfl, _, _, _, hf⟩ := (hSl.below hB).at_ hx
      have c0 : wr.cell? ⟨b, off + k * 4, none⟩ = some (.int .i64 x.r) := (hf 0 _ rfl).1
      have c1 : wr.cell? ⟨b, off + k * 4 + 1, none⟩ = some (.int .i64 x.n) := (hf 1 _ rfl).1
      have c2 : wr.cell? ⟨b, off + k * 4 + 2, none⟩ = some (.int .i64 x.m) := (hf 2 _ rfl).1
      have c3 : wr.cell? ⟨b, off + k * 4 + 3, none⟩ = some (.string x.t) := (hf 3 _ rfl).1
      clear hf hx hxm
      have hBa : Below w.heap.size w (wr.alloc (Obj.cells #[.int .i64 x.r, .int .i64 x.n, .int .i64 x.m, .string x.t] 33)) := by go_grown
      have hTa := hT.alloc (Obj.cells #[.int .i64 x.r, .int .i64 x.n, .int .i64 x.m, .string x.t] 33)
      -- what the prefix leaves
      obtain ⟨T, hTT⟩ : ∃ T : ByteArray, Hid (T = ⟨(Lib.trimPrefix x.t.data.toList canP.data.toList).toArray⟩) := ⟨_, Lib.hid rfl⟩
      have hTd : Hid (T.data.toList = Lib.trimPrefix x.t.data.toList canP.data.toList) := Lib.hid (by rw [hTT.out])
      have hTl : T.size ≤ 1048576 := by
        rw [Lib.size_eq, hTd.out, Lib.trimPrefix]
        rw [Lib.size_eq] at hxt
        split
        · rw [List.length_drop]; omega
        · exact hxt
      obtain ⟨B, hBB⟩ : ∃ B : Bool, Hid (B = Lib.hasPrefix x.t.data.toList canP.data.toList) := ⟨_, Lib.hid rfl⟩
      have hc : ∀ W, Calls Tryz.prog 94 #[.string x.t, .string ⟨#[99, 97, 110, 99, 101, 108, 32]⟩] W fun e w' => e = .returned (.tuple #[.string T, .bool B]) ∧ w' = W := fun W => by
        have := Tryz.strings_CutPrefix x.t canP W
        rw [← hTT.out, ← hBB.out] at this
        exact this
      go_wp2_with fail
      refine (hc _).mono ?_
      rintro e w2 ⟨rfl, rfl⟩
      clear hc c0 c1 c2 c3
      go_wp2_with fail
      refine (readNumber_any T hTl _ (hS.below hBa)).mono ?_
      rintro e w2 ⟨v, b, rfl, h1, h2, hb⟩
      have hB2 := Below.on' hBa hb
      have hT2 : Bools w2 w.heap.size w2.heap.size (some ⟨w.heap.size, 0, none⟩) G := (hTa.below hb).mono (Nat.le_refl _) (by have := hb.size; simp at this; omega) (Nat.le_refl _)
      have HN : Hid (∀ q : Nat, q < k → x.t.toList = (canT (q + 1)).toList → B = true ∧ b = true ∧ v = (q : Int) + 1) := Lib.hid (fun q hq e => by
        rw [Go.ByteArray.toList_eq, Go.ByteArray.toList_eq, canT_data] at e
        have hp : Lib.hasPrefix x.t.data.toList canP.data.toList = true := by rw [e]; exact can_has _ _
        have ht : T.data.toList = Lib.decDigits (q + 1) := by rw [hTd.out, e, can_trim]
        obtain ⟨r1, r2⟩ := h2 ((q + 1 : Nat) : Int) (by rw [ht]; exact atoi_dec _ (by omega)) (by rw [ht, itoa_nat])
        exact ⟨hBB.out.trans hp, r1, by rw [r2]; rfl⟩)
      have HY : Hid (B = true → b = true → ∀ j : Nat, v = (j : Int) + 1 → x.t.toList = (canT (j + 1)).toList) := Lib.hid (fun hB' hb' j hj => by
        have := (h1 hb').2
        rw [hTd.out, hj, show ((j : Int) + 1) = ((j + 1 : Nat) : Int) from rfl, itoa_nat] at this
        rw [Go.ByteArray.toList_eq, Go.ByteArray.toList_eq, canT_data, ← this]
        exact can_pre (hBB.out.symm.trans hB'))
      have HMs : Hid ((∀ q : Nat, (liveF (l.take k))[q]? = some true → x.t.toList ≠ (canT (q + 1)).toList) → Hid (G = padL ((liveF (l.take (k + 1))).map fun b => !b) l.length)) := Lib.hid (fun h => Lib.hid (by
        rw [HG.out, HF.out, liveStep_miss h, List.map_append]
        exact padL_false (by simp [hFl.out]; exact hlt)))
      have hqk : Hid (∀ q : Nat, (liveF (l.take k))[q]? = some true → q < k) := Lib.hid (fun q hq => by have := (List.getElem?_eq_some_iff.1 hq).1; rw [hFl.out] at this; exact this)
      clear h1 h2 hb hT hTa hTl hxt
      by_cases hBt : B = true
      rotate_left
      · have HX : ∀ q : Nat, (liveF (l.take k))[q]? = some true → x.t.toList ≠ (canT (q + 1)).toList := fun q hq e => hBt (HN.out q (hqk.out q hq) e).1
        replace HX := Lib.hid (HMs.out HX)
        obtain rfl : B = false := by simpa using hBt
        clear HN HY HMs hqk hBB hTd hTT
        go_wp2
        go_roundw
        case rel => exact ⟨k + 1, G, by omega, by go_num, hLG, HX.out, hT2, hB2⟩
        case measure => simp [intOf]; omega
      by_cases hbt : b = true
      rotate_left
      · have HX : ∀ q : Nat, (liveF (l.take k))[q]? = some true → x.t.toList ≠ (canT (q + 1)).toList := fun q hq e => hbt (HN.out q (hqk.out q hq) e).2.1
        replace HX := Lib.hid (HMs.out HX)
        obtain rfl : b = false := by simpa using hbt
        obtain rfl : B = true := hBt
        clear HN HY HMs hqk hBB hTd hTT
        go_wp2
        go_roundw
        case rel => exact ⟨k + 1, G, by omega, by go_num, hLG, HX.out, hT2, hB2⟩
        case measure => simp [intOf]; omega
      obtain rfl : b = true := hbt
      obtain rfl : B = true := hBt
      go_wp2_with fail
      refine (inside_any _ _ _ _).mono ?_
      rintro e w3 ⟨rfl, hb⟩
      have hB3 := Below.on' hB2 hb
      have hT3 := (hT2.below hb).mono (Nat.le_refl _) hb.size (Nat.le_refl _)
      clear hb hT2 hB2
      by_cases hin : inB v 1 k = true
      rotate_left
      · have HX : ∀ q : Nat, (liveF (l.take k))[q]? = some true → x.t.toList ≠ (canT (q + 1)).toList := fun q hq e => hin (by
          obtain ⟨_, _, hv⟩ := HN.out q (hqk.out q hq) e
          have := hqk.out q hq
          simp [inB]; omega)
        replace HX := Lib.hid (HMs.out HX)
        have hin : inB v 1 k = false := by simpa using hin
        clear HN HY HMs hqk hBB hTd hTT
        go_wp2
        go_roundw
        case rel => exact ⟨k + 1, G, by omega, by go_num, hLG, HX.out, hT3, hB3⟩
        case measure => simp [intOf]; omega
      obtain ⟨j, rfl⟩ : ∃ j : Nat, v = (j : Int) + 1 := ⟨(v - 1).toNat, by simp [inB] at hin; omega⟩
      have hjk : j < k := by simp [inB] at hin; omega
      have HE := Lib.hid (HY.out (by trivial) (by trivial) j rfl)
      obtain ⟨y, hy, _⟩ := get_lt (show j < G.length by omega)
      have hyF : Hid ((liveF (l.take k))[j]? = some (!y)) := Lib.hid (by
        have h1 := hy
        rw [HG.out, not_get (by rw [hFl.out]; exact hjk)] at h1
        cases h2 : (liveF (l.take k))[j]? with
        | none => rw [h2] at h1; cases h1
        | some z => rw [h2] at h1; simp at h1; rw [← h1] <;> simp)
      obtain ⟨_, _, e, _, _, _, d0, d1⟩ := Bools.at1 hT3 hy
      cases e
      rw [Nat.zero_add] at d0 d1
      have hw1 : IntKind.i64.wrap ((j : Int) + 1 - 1) = (j : Int) := by rw [show (j : Int) + 1 - 1 = j by omega]; exact IntWalk.i64_in _ (by omega)
      have hjG : j < G.length := by omega
      have hkG : k < G.length := by omega
      have hjl : j < l.length := by omega
      have hin' : Hid (inB ((j : Int) + 1) 1 k = true) := Lib.hid hin
      rw [hin]
      cases y with
      | true =>
        have HX : ∀ q : Nat, (liveF (l.take k))[q]? = some true → x.t.toList ≠ (canT (q + 1)).toList := fun q hq e => by
          have := canT_inj (HE.out.symm.trans e)
          obtain rfl : q = j := by omega
          rw [hyF.out] at hq; cases hq
        replace HX := Lib.hid (HMs.out HX)
        clear HN HY HMs hqk hBB hTd hTT HE hyF hin hin'
        go_wp2
        go_roundw
        case rel => exact ⟨k + 1, G, by omega, by go_num, hLG, HX.out, hT3, hB3⟩
        case measure => simp [intOf]; omega
      | false =>
        have HX : Hid ((G.set k true).set j true = padL ((liveF (l.take (k + 1))).map fun b => !b) l.length) := Lib.hid (by
          have h0 := hFl.out
          have h1 := padL_set (F := (liveF (l.take k)).map fun b => !b) (v := true) (n := l.length) (by simp [h0]; exact hlt)
          rw [show ((liveF (l.take k)).map fun b => !b).length = k by simp [h0]] at h1
          rw [HG.out, h1, padL_setL (by simp [h0]; omega), HF.out, liveStep_hit (show (liveF (l.take k))[j]? = some true from hyF.out) HE.out, List.map_append, List.map_set, List.set_append_left _ _ (by simp [h0]; exact hjk)]
          rfl)
        have hTa := Bools.set hT3 hkG true
        have hTb := Bools.set hTa (show j < (G.set k true).length by rw [List.length_set]; exact hjG) true
        obtain ⟨_, _, e, _, _, _, q0, q1⟩ := Bools.at1 hT3 (List.getElem?_eq_getElem hkG)
        cases e
        obtain ⟨_, _, e, _, _, _, r0, r1⟩ := Bools.at1 hTa (List.getElem?_eq_getElem (show j < (G.set k true).length by rw [List.length_set]; exact hjG))
        cases e
        rw [Nat.zero_add] at q0 q1 r0 r1 hTb
        rw [Nat.zero_add] at hTb r0 r1
        clear HN HY HMs hqk hBB hTd hTT HE hyF hin hin' hTa hy HG
        go_wp2
        go_roundw
        case rel => exact ⟨k + 1, _, by omega, by go_num, by rw [List.length_set, List.length_set]; exact hLG, HX, hTb.mono (Nat.le_refl _) (by simp [World.setCell]) (Nat.le_refl _), by go_grown⟩
        case measure => simp [intOf]; omega
    · obtain rfl : k = l.length := by omega
      have HE : Hid (∀ q : Nat, G[q]? = (liveF l)[q]?.map fun b => !b) := Lib.hid (fun q => by
        have h1 : l.take l.length = l := List.take_length
        have h2 : ((liveF l).map fun b => !b).length = l.length := by rw [List.length_map, liveF_len]
        rw [HG.out, h1, ← List.getElem?_map]
        rw [← h2, padL_full])
      have hFl : (liveF l).length = l.length := liveF_len l
      clear HG hlt hS
      have hzz := hB.size
      obtain ⟨wo, hwo⟩ : ∃ wo, wo = wr := ⟨_, rfl⟩
      subst hwo
      go_wp2_with fail
      go_loopw [10, 61] (fun o i wx => ∃ (q : Nat) (A : Option Addr) (c : Nat) (r : List Int), q ≤ l.length ∧ i = .int .i64 q ∧ o = .slice A r.length c ∧ r.length ≤ q ∧ Own Ints.cells 1 3 wx wo.heap.size A c r ∧ Hid (r ++ idxF ((liveF l).drop q) q = idxF (liveF l) 0) ∧ Below wo.heap.size wo wx) (fun _ i _ => l.length - (intOf i).toNat)
      case atStart => exact ⟨0, none, 0, [], Nat.zero_le _, rfl, rfl, Nat.zero_le _, Own.nil_, Lib.hid rfl, Below.refl _ _⟩
      case round =>
        obtain ⟨q, A, c, r, hq, rfl, rfl, hr, hO, HF, hBx⟩ := hrel
        have hzx := hBx.size
        by_cases hql : q < l.length
        · obtain ⟨y, hy, _⟩ := get_lt (show q < G.length by omega)
          have hyF : Hid ((liveF l)[q]? = some (!y)) := Lib.hid (by
            have h1 := hy
            rw [HE.out] at h1
            cases h2 : (liveF l)[q]? with
            | none => rw [h2] at h1; cases h1
            | some z => rw [h2] at h1; simp at h1; rw [← h1] <;> simp)
          have HC := Lib.hid (idxF_step hyF.out)
          obtain ⟨_, _, e, _, _, _, d0, d1⟩ := Bools.at1 (hT.below hBx) hy
          cases e
          rw [Nat.zero_add] at d0 d1
          have hqG : q < G.length := by omega
          clear hy hyF
          cases y with
          | false =>
            have HQ := Lib.hid (HC.out.trans (if_pos rfl))
            clear HC
            go_wp2_with (at_builtin; refine wpList_append_one _ rfl (.tmp 68) (.tmp 70) _ rfl i0 _ _ Tryz.underlying37 hi0 hz0 hz1 hz2 rfl (by omega) Ints.len Ints.one (q : Int) _ (hO.alloc _) rfl rfl (new_cells _ _ _ _ rfl) (by unfold maxLen; omega) (by omega) (by simp; omega) ?_; intro A2 c2 wb L hL hO2 hb2)
            have hlen : L.length = r.length + 1 := by rw [hL.out]; simp
            have hlen2 : L.length ≤ q + 1 := by omega
            clear hlen
            have hBc : Below wo.heap.size wo wb := Below.trans (by go_grown) hb2
            clear hb2 hO d0 d1
            go_roundw
            case rel =>
              refine ⟨q + 1, A2, c2, L, by omega, by go_num, rfl, hlen2, hO2, Lib.hid ?_, hBc⟩
              rw [hL.out, List.append_assoc, ← HF.out, HQ.out]
              rfl
            case measure => simp [intOf]; omega
          | true =>
            have HQ := Lib.hid (HC.out.trans (if_neg (by decide)))
            clear HC
            go_wp2
            go_roundw
            case rel =>
              refine ⟨q + 1, A, c, r, by omega, by go_num, rfl, by omega, hO, Lib.hid ?_, hBx⟩
              rw [← HF.out, HQ.out]
            case measure => simp [intOf]; omega
        · have hd : (liveF l).drop q = [] := List.drop_of_length_le (by omega)
          have HR : Hid (liveR l = r) := Lib.hid (by have := HF.out; rw [hd] at this; simpa [idxF, liveR] using this.symm)
          clear hd HF hi0 hz0 hz1 hz2
          go_wp2
          go_ret
          rw [HR.out]
          exact ⟨A, c, rfl, hO.lift hzz, Below.on' hB hBx⟩
theorem liveEntries_any (Al : Option Addr) (cl : Nat) (l : List Ent) (w : World) (hll : l.length ≤ 1048576) (hml : ∀ x ∈ l, x.t.size ≤ 1048576) (hSl : Ents w 0 w.heap.size Al l) (hS : Said w) : Calls Tryz.prog 61 #[.slice Al l.length cl] w (RS1 Ints.cells 1 w (liveR l)) := by
  refine (liveEntries_own Al cl l w hll hml hSl hS).mono ?_
  rintro e w' ⟨A, c, rfl, hO, hb⟩
  exact ⟨A, c, rfl, hO.sl Ints.len, hO.cap, hb⟩
set_option maxHeartbeats 2000000 in
theorem LiveEntries_spec (Al : Option Addr) (cl : Nat) (l : List Ent) (w : World) (hll : l.length ≤ 1048576) (hml : ∀ x ∈ l, x.t.size ≤ 1048576) (hSl : Ents w 0 w.heap.size Al l) (hcl : l.length ≤ cl) : Calls Tryz.prog 16 #[.slice Al l.length cl] w (RS2 Ints.cells 1 w (livT l) (logB l)) := by
  obtain ⟨i0, hi0, hz0, hz1, hz2⟩ := info_parts Ints.info
  have hg := lgGood_any Al cl l w (big hll) (bigs hml) hSl
  cases g : logB l with
  | false =>
    rw [g] at hg
    have HR : Hid (livT l = []) := Lib.hid (by rw [livT, g, if_neg (by decide)])
    clear hi0 hz0 hz1 hz2
    go_enter Tryz.func16, Tryz.ntmps16
    go_wp2_with fail
    refine hg.mono ?_
    rintro e w1 ⟨rfl, hb⟩
    go_wp2
    go_ret2
    exact RS2.nil_ HR.out rfl hb
  | true =>
    rw [g] at hg
    have HR : Hid (livT l = liveR l) := Lib.hid (by rw [livT, g, if_pos rfl])
    go_enter Tryz.func16, Tryz.ntmps16
    go_wp2_with fail
    refine hg.mono ?_
    rintro e w1 ⟨rfl, hb1⟩
    go_wp2_with fail
    refine (lgLive_any Al cl l _ hll hml (hSl.below hb1).all hcl).mono ?_
    rintro e w2 ⟨Ag, cg, rfl, hG, _, hb⟩
    have hB := Below.on' hb1 hb
    have hzz := hB.size
    have hFl : (liveF l).length = l.length := liveF_len l
    clear hg hb hb1 hSl
    rw [hFl]
    go_wp2_with fail
    go_loopw [4, 13] (fun o i wx => ∃ (q : Nat) (A : Option Addr) (c : Nat) (r : List Int), q ≤ l.length ∧ i = .int .i64 q ∧ o = .slice A r.length c ∧ r.length ≤ q ∧ Own Ints.cells 1 3 wx w2.heap.size A c r ∧ Hid (r ++ idxF ((liveF l).drop q) q = idxF (liveF l) 0) ∧ Below w2.heap.size w2 wx) (fun _ i _ => l.length - (intOf i).toNat)
    case atStart => exact ⟨0, none, 0, [], Nat.zero_le _, rfl, rfl, Nat.zero_le _, Own.nil_, Lib.hid rfl, Below.refl _ _⟩
    case round =>
      obtain ⟨q, A, c, r, hq, rfl, rfl, hr, hO, HF, hBx⟩ := hrel
      have hzx := hBx.size
      by_cases hql : q < l.length
      · obtain ⟨y, hy, _⟩ := get_lt (show q < (liveF l).length by omega)
        have HC := Lib.hid (idxF_step hy)
        obtain ⟨gb, go, rfl, _, _, _, d0, d1⟩ := Bools.at1 (hG.below hBx) hy
        clear hy
        cases y with
        | true =>
          have HQ := Lib.hid (HC.out.trans (if_pos rfl))
          clear HC
          go_wp2_with (at_builtin; refine wpList_append_one _ rfl (.tmp 19) (.tmp 21) _ rfl i0 _ _ Tryz.underlying37 hi0 hz0 hz1 hz2 rfl (by omega) Ints.len Ints.one (q : Int) _ (hO.alloc _) rfl rfl (new_cells _ _ _ _ rfl) (by unfold maxLen; omega) (by omega) (by simp; omega) ?_; intro A2 c2 wb L hL hO2 hb2)
          have hlen : L.length = r.length + 1 := by rw [hL.out]; simp
          have hlen2 : L.length ≤ q + 1 := by omega
          clear hlen
          have hBc : Below w2.heap.size w2 wb := Below.trans (by go_grown) hb2
          clear hb2 hO d0 d1
          go_roundw
          case rel =>
            refine ⟨q + 1, A2, c2, L, by omega, by go_num, rfl, hlen2, hO2, Lib.hid ?_, hBc⟩
            rw [hL.out, List.append_assoc, ← HF.out, HQ.out]
            rfl
          case measure => simp [intOf]; omega
        | false =>
          have HQ := Lib.hid (HC.out.trans (if_neg (by decide)))
          clear HC
          go_wp2
          go_roundw
          case rel =>
            refine ⟨q + 1, A, c, r, by omega, by go_num, rfl, by omega, hO, Lib.hid ?_, hBx⟩
            rw [← HF.out, HQ.out]
          case measure => simp [intOf]; omega
      · have hd : (liveF l).drop q = [] := List.drop_of_length_le (by omega)
        have HQ : Hid (livT l = r) := Lib.hid (by have := HF.out; rw [hd] at this; rw [HR.out]; simpa [idxF, liveR] using this.symm)
        clear hd HF hi0 hz0 hz1 hz2
        go_wp2
        go_ret2
        exact RS2.own HQ.out rfl rfl Ints.len (hO.lift hzz) (Below.on' hB hBx)
set_option maxHeartbeats 1000000 in
theorem LiveEntries_impl (Al : Option Addr) (cl : Nat) (l : List Ent) (w : World) (hll : l.length ≤ 1048576) (hml : ∀ x ∈ l, x.t.size ≤ 1048576) (hSl : Ents w 0 w.heap.size Al l) (_hcl : l.length ≤ cl) (hS : Said w) : Calls Tryz.prog 15 #[.slice Al l.length cl] w (RS2 Ints.cells 1 w (livT l) (logB l)) := by
  have hg := isLog_any Al cl l w (big hll) (bigs hml) hSl
  cases g : logB l with
  | false =>
    rw [g] at hg
    have HR : Hid (livT l = []) := Lib.hid (by rw [livT, g, if_neg (by decide)])
    go_enter Tryz.func15, Tryz.ntmps15
    go_wp2_with fail
    refine hg.mono ?_
    rintro e w1 ⟨rfl, hb⟩
    go_wp2
    go_ret2
    exact RS2.nil_ HR.out rfl hb
  | true =>
    rw [g] at hg
    have HR : Hid (livT l = liveR l) := Lib.hid (by rw [livT, g, if_pos rfl])
    go_enter Tryz.func15, Tryz.ntmps15
    go_wp2_with fail
    refine hg.mono ?_
    rintro e w1 ⟨rfl, hb1⟩
    go_wp2_with fail
    refine (liveEntries_any Al cl l _ hll hml (hSl.below hb1).all (hS.below hb1)).mono ?_
    rintro e w2 ⟨A, c, rfl, hR, hc, hb⟩
    have hB := Below.on' hb1 hb
    have hz := hb1.size
    go_wp2
    go_ret2
    exact RS2.of HR.out rfl rfl hR hz hc hB
end Go.Proofs.YtmdmcjhodhphgaaGreatDoor

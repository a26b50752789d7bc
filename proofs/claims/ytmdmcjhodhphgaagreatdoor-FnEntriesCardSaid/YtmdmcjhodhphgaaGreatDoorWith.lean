/- The live entries with a word: what the program and the reference find. Conditions: lists and texts of at most 2^20; the listed variables as Said and MaxL have them. -/
import Derived.Test.YtmdmcjhodhphgaaGreatDoorLive
import Derived.Test.YtmdmcjhodhphgaaGreatDoorDelI
import Derived.Test.YtmdmcjhodhphgaaGreatDoorRd
import Derived.Test.YtmdmcjhodhphgaaGreatDoorReg
import Derived.Lib.IndexAny
namespace Go.Proofs.YtmdmcjhodhphgaaGreatDoor
open Go.RowKit

def wordB (p : ByteArray) : Bool := textB p 20 && !(p.data.toList.contains 32)
theorem textB_20 (p : ByteArray) : textB p 20 = (textB p 40 && decide (p.size ≤ 20)) := by
  unfold textB
  by_cases h : p.size ≤ 20
  · have h1 : ((p.size : Int) ≤ 20) := by omega
    have h2 : ((p.size : Int) ≤ 40) := by omega
    simp [h, h1, h2]
  · have h1 : ¬ ((p.size : Int) ≤ 20) := by omega
    simp [h, h1]
theorem split_one {b : UInt8} (d : List UInt8) : decide ((splitS b [] d).length = 1) = !(d.contains b) := by
  by_cases h : b ∈ d
  · obtain ⟨q, r, rfl, hq⟩ := split_mem h
    have hn := splitS_ne b [] r
    have : (splitS b [] r).length ≠ 0 := fun e => hn (List.eq_nil_of_length_eq_zero e)
    rw [splitS_cut [] r hq, List.length_cons]
    simp [this]
  · rw [splitS_none [] h]
    simp [h]
def hasL (L : List ByteArray) (p : ByteArray) : Bool := L.any fun y => decide (y.toList = p.toList)
theorem hasL_eq {L : List ByteArray} {S : List (List UInt8)} (h : L.map (fun x => x.data.toList) = S) (p : ByteArray) : hasL L p = S.contains p.data.toList := by
  subst h
  rw [Bool.eq_iff_iff, hasL, List.any_eq_true, List.contains_iff_mem, List.mem_map]
  constructor
  · rintro ⟨y, hy, e⟩
    exact ⟨y, hy, by simpa [Go.ByteArray.toList_eq] using e⟩
  · rintro ⟨y, hy, e⟩
    exact ⟨y, hy, by simpa [Go.ByteArray.toList_eq] using e⟩
theorem hasL_c (L : List ByteArray) (p : ByteArray) : Lib.containsS L p = hasL L p := by
  rw [Bool.eq_iff_iff, Lib.containsS_iff, hasL, List.any_eq_true]
  constructor
  · intro h; exact ⟨p, h, by simp⟩
  · rintro ⟨y, hy, e⟩
    have : y = p := toList_inj (by simpa using e)
    rw [← this]; exact hy
def hasW (l : List Ent) (p : ByteArray) (i : Nat) : Bool := match l[i]? with
  | some x => (splitS 32 [] x.t.data.toList).contains p.data.toList
  | none => false
def witOk (l : List Ent) (p : ByteArray) : Bool := logB l && wordB p
def witR (l : List Ent) (p : ByteArray) : List Int := if witOk l p = true then (liveR l).filter (fun i => hasW l p i.toNat) else []
theorem witR_len (l : List Ent) (p : ByteArray) : (witR l p).length ≤ l.length := by
  unfold witR
  split
  · exact Nat.le_trans (List.length_filter_le _ _) (liveR_len l)
  · exact Nat.zero_le _
theorem wit_no {l : List Ent} {p : ByteArray} (h : witOk l p = false) : witR l p = [] ∧ witOk l p = false := ⟨by rw [witR, h, if_neg (by decide)], h⟩
set_option maxHeartbeats 1000000 in
theorem dsHas_any (A : Option Addr) (c lo hi : Nat) (L : List ByteArray) (p : ByteArray) (w : World) (hl : L.length ≤ 1048577) (hS : Strs w lo hi A L) : Calls Tryz.prog 85 #[.slice A L.length c, .string p] w (RV w (.bool (hasL L p))) := by
  go_enter Tryz.func85, Tryz.ntmps85
  go_wp2_with fail
  go_loopw [9] (fun i wr => ∃ k : Nat, k ≤ L.length ∧ i = .int .i64 k ∧ Hid (hasL (L.take k) p = false) ∧ Below w.heap.size w wr) (fun i _ => L.length - (intOf i).toNat)
  case atStart => exact ⟨0, Nat.zero_le _, rfl, Lib.hid rfl, Below.refl _ _⟩
  case round =>
    obtain ⟨k, hk, rfl, HF, hB⟩ := hrel
    by_cases hlt : k < L.length
    · obtain ⟨x, hx, hxm⟩ := get_lt hlt
      obtain ⟨b, off, rfl, _, _, _, c0, _⟩ := Strs.at1 (hS.below hB) hx
      by_cases hq : x.toList = p.toList
      · have HT : Hid (hasL L p = true) := Lib.hid (List.any_eq_true.2 ⟨x, hxm, by simpa using hq⟩)
        clear HF hx hxm
        go_wp2
        go_ret
        exact RV.mk (by rw [HT.out]; rfl) hB
      · have hq' : (x.toList == p.toList) = false := by simpa using hq
        have HT : Hid (hasL (L.take (k + 1)) p = false) := Lib.hid (by
          have := HF.out
          unfold hasL at this ⊢
          rw [take_snoc hx, List.any_append, this]
          simp [hq])
        clear HF hx hxm hq
        go_wp2
        go_roundw
        case rel => exact ⟨k + 1, by omega, by go_num, HT, hB⟩
        case measure => simp [intOf]; omega
    · have HT : Hid (hasL L p = false) := Lib.hid (by have := HF.out; rwa [List.take_of_length_le (by omega)] at this)
      clear HF
      go_wp2
      go_ret
      exact RV.mk (by rw [HT.out]; rfl) hB
theorem lgWord_any (p : ByteArray) (hp : p.size ≤ 1048576) (w : World) : Calls Tryz.prog 84 #[.string p] w (RV w (.bool (wordB p))) := by
  have hc : ∀ W, Calls Tryz.prog 76 #[.string p, .int .u8 32] W fun e w' => ∃ A c L, e = .returned (.slice A L.length c) ∧ Own Strs.cells 1 9 w' W.heap.size A c L ∧ (L.length ≤ p.size + 1 ∧ ∀ x ∈ L, x.size ≤ p.size) ∧ Hid (L.map (fun x => x.data.toList) = splitS 32 [] p.data.toList) ∧ Below W.heap.size W w' := fun W => l1Split_any p 32 hp W
  go_enter Tryz.func84, Tryz.ntmps84
  go_wp2_with fail
  refine (lgText_any p 20 (big hp) _).mono ?_
  rintro e w1 ⟨rfl, hb⟩
  have hB1 : Below w.heap.size w w1 := Below.on' (by go_grown) hb
  by_cases g : textB p 20 = true
  rotate_left
  · have g : textB p 20 = false := by simpa using g
    have HE : Hid (wordB p = false) := Lib.hid (by rw [wordB, g]; rfl)
    rw [g]
    go_wp2
    go_ret
    exact RV.mk (by rw [HE.out]; rfl) hB1
  rw [g]
  go_wp2_with fail
  refine (hc _).mono ?_
  rintro e w2 ⟨A, c, L, rfl, _, _, HL, hb2⟩
  have hB2 := Below.on' hB1 hb2
  have HE : Hid (wordB p = decide (L.length = 1)) := Lib.hid (by
    rw [wordB, g, Bool.true_and, ← split_one, ← HL.out, List.length_map])
  by_cases h1 : L.length = 1
  · have h1' : ((L.length : Int) == 1) = true := by simp; omega
    have HE2 : Hid (wordB p = true) := Lib.hid (by rw [HE.out]; simpa using h1)
    clear HE h1
    go_wp2
    go_ret
    exact RV.mk (by rw [HE2.out]; rfl) hB2
  · have h1' : ((L.length : Int) == 1) = false := by simp; omega
    have HE2 : Hid (wordB p = false) := Lib.hid (by rw [HE.out]; simpa using h1)
    clear HE h1
    go_wp2
    go_ret
    exact RV.mk (by rw [HE2.out]; rfl) hB2
set_option maxRecDepth 100000 in
set_option maxHeartbeats 2000000 in
theorem EntriesWith_spec (Al : Option Addr) (cl : Nat) (l : List Ent) (p : ByteArray) (w : World) (hll : l.length ≤ 1048576) (hml : ∀ x ∈ l, x.t.size ≤ 1048576) (hSl : Ents w 0 w.heap.size Al l) (hcl : l.length ≤ cl) (hp : p.size ≤ 1048576) : Calls Tryz.prog 32 #[.slice Al l.length cl, .string p] w (RS2 Ints.cells 1 w (witR l p) (witOk l p)) := by
  obtain ⟨i0, hi0, hz0, hz1, hz2⟩ := info_parts Ints.info
  have hg := lgGood_any Al cl l w (big hll) (bigs hml) hSl
  go_enter Tryz.func32, Tryz.ntmps32
  go_wp2_with fail
  refine hg.mono ?_
  rintro e w1 ⟨rfl, hb1⟩
  clear hg
  by_cases g1 : logB l = true
  rotate_left
  · have g1 : logB l = false := by simpa using g1
    have HN := Lib.hid (wit_no (l := l) (p := p) (by rw [witOk, g1]; rfl))
    rw [g1]
    clear hi0 hz0 hz1 hz2
    go_wp2
    go_ret2
    exact RS2.nil_ HN.out.1 HN.out.2 hb1
  rw [g1]
  go_wp2_with fail
  refine (lgWord_any p hp _).mono ?_
  rintro e w2 ⟨rfl, hb⟩
  have hb2 := Below.on' hb1 hb
  clear hb
  by_cases g2 : wordB p = true
  rotate_left
  · have g2 : wordB p = false := by simpa using g2
    have HN := Lib.hid (wit_no (l := l) (p := p) (by rw [witOk, g2, Bool.and_false]))
    rw [g2]
    clear hi0 hz0 hz1 hz2
    go_wp2
    go_ret2
    exact RS2.nil_ HN.out.1 HN.out.2 hb2
  have HR : Hid (witR l p = (idxF (liveF l) 0).filter (fun i => hasW l p i.toNat) ∧ witOk l p = true) := Lib.hid (by
    have h : witOk l p = true := by rw [witOk, g1, g2]; rfl
    exact ⟨by rw [witR, if_pos h]; rfl, h⟩)
  rw [g2]
  clear g1 g2
  go_wp2_with fail
  refine (lgLive_any Al cl l _ hll hml (hSl.below hb2).all hcl).mono ?_
  rintro e w3 ⟨Ag, cg, rfl, hG, _, hb⟩
  have hB := Below.on' hb2 hb
  have hzz := hB.size
  have hFl : (liveF l).length = l.length := liveF_len l
  clear hb hb1 hb2
  rw [hFl]
  go_wp2_with fail
  go_loopw [6, 20] (fun o i wx => ∃ (q : Nat) (A : Option Addr) (c : Nat) (r : List Int), q ≤ l.length ∧ i = .int .i64 q ∧ o = .slice A r.length c ∧ r.length ≤ q ∧ Own Ints.cells 1 3 wx w3.heap.size A c r ∧ Hid (r ++ (idxF ((liveF l).drop q) q).filter (fun i => hasW l p i.toNat) = (idxF (liveF l) 0).filter (fun i => hasW l p i.toNat)) ∧ Below w3.heap.size w3 wx) (fun _ i _ => l.length - (intOf i).toNat)
  case atStart => exact ⟨0, none, 0, [], Nat.zero_le _, rfl, rfl, Nat.zero_le _, Own.nil_, Lib.hid rfl, Below.refl _ _⟩
  case round =>
    obtain ⟨q, A, c, r, hq, rfl, rfl, hr, hO, HF, hBx⟩ := hrel
    have hzx := hBx.size
    by_cases hql : q < l.length
    · obtain ⟨y, hy, _⟩ := get_lt (show q < (liveF l).length by omega)
      obtain ⟨x, hx, hxm⟩ := get_lt hql
      have hxt := hml x hxm
      have HC := Lib.hid (idxF_step hy)
      obtain ⟨gb, go, rfl, _, _, _, d0, d1⟩ := Bools.at1 (hG.below hBx) hy
      have hSx := (hSl.below (Below.on' hB hBx))
      obtain ⟨b, off, rfl, _, _, _, hf⟩ := hSx.at_ hx
      have c3 : wr.cell? ⟨b, off + q * 4 + 3, none⟩ = some (.string x.t) := (hf 3 _ rfl).1
      have HW : Hid (hasW l p q = (splitS 32 [] x.t.data.toList).contains p.data.toList) := Lib.hid (by rw [hasW, hx])
      clear hy hx hxm hf hSx
      cases y with
      | false =>
        have HQ := Lib.hid (HC.out.trans (if_neg (by decide)))
        clear HC HW
        go_wp2
        go_roundw
        case rel =>
          refine ⟨q + 1, A, c, r, by omega, by go_num, rfl, by omega, hO, Lib.hid ?_, hBx⟩
          rw [← HF.out, HQ.out]
        case measure => simp [intOf]; omega
      | true =>
        have HQ := Lib.hid (HC.out.trans (if_pos rfl))
        have hcs : ∀ W, Calls Tryz.prog 76 #[.string x.t, .int .u8 32] W fun e w' => ∃ A c L, e = .returned (.slice A L.length c) ∧ Own Strs.cells 1 9 w' W.heap.size A c L ∧ (L.length ≤ x.t.size + 1 ∧ ∀ z ∈ L, z.size ≤ x.t.size) ∧ Hid (L.map (fun x => x.data.toList) = splitS 32 [] x.t.data.toList) ∧ Below W.heap.size W w' := fun W => l1Split_any x.t 32 hxt W
        clear HC
        go_wp2_with fail
        refine (hcs _).mono ?_
        rintro e wa ⟨As, cs, L, rfl, hOs, ⟨hLn, _⟩, HL, hb⟩
        have hBa := Below.on' hBx hb
        have hOa := hO.below hb
        clear hcs hb d0 d1 c3
        go_wp2_with fail
        refine (dsHas_any As cs _ _ L p _ (by omega) (hOs.sl Strs.len)).mono ?_
        rintro e wb ⟨rfl, hb⟩
        have hBb := Below.on' hBa hb
        have hOb := hOa.below hb
        have hzb := hBb.size
        have HH : Hid (hasL L p = hasW l p q) := Lib.hid (by rw [hasL_eq HL.out, HW.out])
        clear hb hO hOa hOs HL HW
        generalize hasL L p = v at HH
        cases v with
        | true =>
          have HQ2 : Hid ((idxF ((liveF l).drop q) q).filter (fun i => hasW l p i.toNat) = (q : Int) :: (idxF ((liveF l).drop (q + 1)) (q + 1)).filter (fun i => hasW l p i.toNat)) := Lib.hid (by
            rw [HQ.out, List.filter_cons, if_pos (by rw [Int.toNat_natCast, ← HH.out])])
          clear HQ HH
          go_wp2_with (at_builtin; refine wpList_append_one _ rfl (.tmp 36) (.tmp 38) _ rfl i0 _ _ Tryz.underlying37 hi0 hz0 hz1 hz2 rfl (by omega) Ints.len Ints.one (q : Int) _ (hOb.alloc _) rfl rfl (new_cells _ _ _ _ rfl) (by unfold maxLen; omega) (by omega) (by simp; omega) ?_; intro A2 c2 wc L2 hL hO2 hb2)
          have hlen : L2.length = r.length + 1 := by rw [hL.out]; simp
          have hlen2 : L2.length ≤ q + 1 := by omega
          clear hlen
          have hBc : Below w3.heap.size w3 wc := Below.trans (by go_grown) hb2
          clear hb2 hOb
          go_roundw
          case rel =>
            refine ⟨q + 1, A2, c2, L2, by omega, by go_num, rfl, hlen2, hO2, Lib.hid ?_, hBc⟩
            rw [hL.out, List.append_assoc, ← HF.out, HQ2.out]
            rfl
          case measure => simp [intOf]; omega
        | false =>
          have HQ2 : Hid ((idxF ((liveF l).drop q) q).filter (fun i => hasW l p i.toNat) = (idxF ((liveF l).drop (q + 1)) (q + 1)).filter (fun i => hasW l p i.toNat)) := Lib.hid (by
            rw [HQ.out, List.filter_cons, if_neg (by rw [Int.toNat_natCast, ← HH.out]; decide)])
          clear HQ HH
          go_wp2
          go_roundw
          case rel =>
            refine ⟨q + 1, A, c, r, by omega, by go_num, rfl, by omega, hOb, Lib.hid ?_, hBb⟩
            rw [← HF.out, HQ2.out]
          case measure => simp [intOf]; omega
    · have hd : (liveF l).drop q = [] := List.drop_of_length_le (by omega)
      have HQ : Hid (witR l p = r) := Lib.hid (by have := HF.out; rw [hd] at this; rw [HR.out.1]; simpa [idxF] using this.symm)
      have HO2 := Lib.hid HR.out.2
      clear hd HF HR hi0 hz0 hz1 hz2
      go_wp2
      go_ret2
      exact RS2.own HQ.out rfl HO2.out Ints.len (hO.lift hzz) (Below.on' hB hBx)
theorem split_sz (b : UInt8) (sv : Nat) : ∀ (k : Nat) (t : ByteArray) (n : Nat), t.size ≤ n → ∀ x ∈ Lib.splitB ⟨#[b]⟩ sv k t, x.size ≤ n := by
  intro k
  induction k with
  | zero => intro t n ht x hx; rw [Lib.splitB_zero] at hx; obtain rfl := List.mem_singleton.1 hx; exact ht
  | succ k ih =>
    intro t n ht x hx
    unfold Lib.splitB at hx
    split at hx
    · obtain rfl := List.mem_singleton.1 hx; exact ht
    · rcases List.mem_cons.1 hx with rfl | hx
      · rw [ByteArray.size_extract]; omega
      · exact ih _ n (by rw [ByteArray.size_extract]; omega) x hx
theorem split_any1 (s : ByteArray) (b : UInt8) (hs : s.size ≤ 1048576) (w : World) (hX : MaxL w) : Calls Tryz.prog 83 #[.string s, .string ⟨#[b]⟩] w fun e w' => ∃ L : List ByteArray, e = .returned (.slice (some ⟨w.heap.size, 0, none⟩) L.length L.length) ∧ w' = w.alloc (.cells (L.map Value.string).toArray 9) ∧ Hid (L.map (fun x => x.data.toList) = splitS b [] s.data.toList) ∧ L.length ≤ 1048577 := by
  obtain ⟨m, hm⟩ := hX
  have hl1 : (Lib.splitB ⟨#[b]⟩ 0 (Lib.countB s ⟨#[b]⟩) s).length = Lib.countB s ⟨#[b]⟩ + 1 := Lib.splitB_all ⟨#[b]⟩ (Nat.le_refl 1) 0 _ s rfl
  have hl2 : Lib.countB s ⟨#[b]⟩ ≤ s.size := Lib.countB_le ⟨#[b]⟩ (Nat.le_refl 1) s.size s (Nat.le_refl _)
  have HS : Hid ((Lib.splitB ⟨#[b]⟩ 0 (Lib.countB s ⟨#[b]⟩) s).map (fun x => x.data.toList) = splitS b [] s.data.toList) := Lib.hid ((Lib.splitB_data ⟨#[b]⟩ 0 (Lib.countB s ⟨#[b]⟩) s).trans (splitK_eq b [] (.inl rfl) s.data.toList))
  refine (Tryz.strings_Split s ⟨#[b]⟩ m w (by omega) hm (Nat.le_refl 1)).mono ?_
  rintro e w' ⟨rfl, rfl⟩
  exact ⟨_, by rw [hl1], rfl, HS, by omega⟩
set_option maxRecDepth 100000 in
set_option maxHeartbeats 2000000 in
theorem with1_any (Al : Option Addr) (cl : Nat) (l : List Ent) (p : ByteArray) (k b1 b2 : Nat) (W : World) (hml : ∀ x ∈ l, x.t.size ≤ 1048576) (hSl : Ents W 0 W.heap.size Al l) (hk : k < l.length)
    (h1 : W.cell? ⟨b1, 0, none⟩ = some (.slice Al l.length cl)) (h2 : W.cell? ⟨b2, 0, none⟩ = some (.string p)) (hX : MaxL W) :
    Calls Tryz.prog 81 #[.int .i64 k, .pointer (some ⟨b1, 0, none⟩), .pointer (some ⟨b2, 0, none⟩)] W fun e w' => e = .returned (.bool (!hasW l p k)) ∧ Below W.heap.size W w' := by
  obtain ⟨x, hx, hxm⟩ := get_lt hk
  have hxt := hml x hxm
  obtain ⟨b, off, rfl, _, _, _, hf⟩ := hSl.at_ hx
  have c3 : W.cell? ⟨b, off + k * 4 + 3, none⟩ = some (.string x.t) := (hf 3 _ rfl).1
  have HW : Hid (hasW l p k = (splitS 32 [] x.t.data.toList).contains p.data.toList) := Lib.hid (by rw [hasW, hx])
  clear hf hx hxm
  go_enter Tryz.func81, Tryz.ntmps81
  go_upto_region 1 with fail
  refine wp_region_held_drew (S := fun w' => Below W.drew.heap.size W.drew w') (by kernel_rfl) (Below.refl _ _) (fun _ => ?_)
  have hB0 : Below W.heap.size W W.drew := (Below.refl _ _).drew
  have hcls : ∀ w', Below W.drew.heap.size W.drew w' → w'.cell? ⟨b1, 0, none⟩ = some (.slice (some ⟨b, off, none⟩) l.length cl) ∧ w'.cell? ⟨b2, 0, none⟩ = some (.string p) ∧ w'.cell? ⟨b, off + k * 4 + 3, none⟩ = some (.string x.t) := fun w' h => ⟨keep h h1, keep h h2, keep h c3⟩
  have hX0 : MaxL W.drew := hX.below hB0
  clear h1 h2 c3
  generalize W.drew = W0 at hB0 hcls hX0 ⊢
  change wpAnyH _ _ _ _ _ 10 #[false, false, false, false, false, false, false, false, false, false] _ _
  refine wpAnyH_takeL (i := 0) (v := .slice (some ⟨b, off, none⟩) l.length cl) rfl (by kernel_rfl) (by kernel_rfl) (by kernel_rfl) (fun _ _ _ h => h) (Or.inl ⟨by rfl, fun w' hw' => by obtain ⟨y0, y1, y2⟩ := hcls w' hw'; go_simp⟩) (Below.refl _ _) ?_
  simp only [Act.put, List.setIfInBounds_toArray, List.set_cons_zero, List.set_cons_succ]
  refine wpAnyH_takeL (i := 1) (v := .int .i64 k) rfl (by kernel_rfl) (by kernel_rfl) (by kernel_rfl) (fun _ _ _ h => h) (Or.inl ⟨by rfl, fun w' hw' => by obtain ⟨y0, y1, y2⟩ := hcls w' hw'; go_simp⟩) (Below.refl _ _) ?_
  simp only [Act.put, List.setIfInBounds_toArray, List.set_cons_zero, List.set_cons_succ]
  refine wpAnyH_takeL (i := 2) (v := .pointer (some ⟨b, off + k * 4, none⟩)) rfl (by kernel_rfl) (by kernel_rfl) (by kernel_rfl) (fun _ _ _ h => h) (Or.inl ⟨by rfl, fun w' hw' => by obtain ⟨y0, y1, y2⟩ := hcls w' hw'; go_simp⟩) (Below.refl _ _) ?_
  simp only [Act.put, List.setIfInBounds_toArray, List.set_cons_zero, List.set_cons_succ]
  refine wpAnyH_takeL (i := 3) (v := .pointer (some ⟨b, off + k * 4 + 3, none⟩)) rfl (by kernel_rfl) (by kernel_rfl) (by kernel_rfl) (fun _ _ _ h => h) (Or.inl ⟨by rfl, fun w' hw' => by obtain ⟨y0, y1, y2⟩ := hcls w' hw'; go_simp⟩) (Below.refl _ _) ?_
  simp only [Act.put, List.setIfInBounds_toArray, List.set_cons_zero, List.set_cons_succ]
  refine wpAnyH_takeL (i := 4) (v := .string x.t) rfl (by kernel_rfl) (by kernel_rfl) (by kernel_rfl) (fun _ _ _ h => h) (Or.inl ⟨by rfl, fun w' hw' => by obtain ⟨y0, y1, y2⟩ := hcls w' hw'; go_simp⟩) (Below.refl _ _) ?_
  simp only [Act.put, List.setIfInBounds_toArray, List.set_cons_zero, List.set_cons_succ]
  refine wpAnyH_takeL (i := 6) (v := .string p) rfl (by kernel_rfl) (by kernel_rfl) (by kernel_rfl) (fun _ _ _ h => h) (Or.inl ⟨by rfl, fun w' hw' => by obtain ⟨y0, y1, y2⟩ := hcls w' hw'; go_simp⟩) (Below.refl _ _) ?_
  simp only [Act.put, List.setIfInBounds_toArray, List.set_cons_zero, List.set_cons_succ]
  refine wpAnyH_ready (rs := [5]) (by kernel_rfl) (by simp) ?_
  refine AllReadyH.consL rfl (fun K hK => ?_) AllReadyH.nil
  go_simp
  go_at_call 83
  refine (split_any1 x.t 32 hxt W0 hX0).mono ?_
  rintro e V ⟨L, rfl, rfl, HL, hL1⟩
  go_simp
  have hb : Below W0.heap.size W0 (W0.alloc (.cells (L.map Value.string).toArray 9)) := (Below.refl _ _).alloc (Nat.le_refl _) _
  refine hK.out _ _ hb (fun _ => ?_)
  clear hK K
  simp only [List.setIfInBounds_toArray, List.set_cons_zero, List.set_cons_succ]
  have hcell : ∀ j, j < L.length → (W0.alloc (.cells (L.map Value.string).toArray 9)).cell? ⟨W0.heap.size, 0 + j, none⟩ = some (.string (L.getD j ByteArray.empty)) := fun j hj => by
    rw [World.cell?_alloc_at _ _ _ _ rfl, Nat.zero_add, List.getD_eq_getElem?_getD, List.getElem?_eq_getElem hj]
    simp [hj]
  have hcc : Calls Tryz.prog 82 #[.slice (some ⟨W0.heap.size, 0, none⟩) L.length L.length, .string p] (W0.alloc (.cells (L.map Value.string).toArray 9)) fun e w' => e = .returned (.bool (hasL L p)) ∧ w' = (W0.alloc (.cells (L.map Value.string).toArray 9)) := by
    have := Tryz.slices_Contains_string W0.heap.size 0 L.length L.length L p (W0.alloc (.cells (L.map Value.string).toArray 9)) (Nat.le_refl _) (by omega) hcell
    rw [List.take_length, hasL_c] at this
    exact this
  have HV : Hid (hasL L p = hasW l p k) := Lib.hid (by rw [hasL_eq HL.out, HW.out])
  generalize hasL L p = v at hcc HV
  have hBf : Below W.heap.size W (W0.alloc (.cells (L.map Value.string).toArray 9)) := hB0.alloc hB0.size _
  generalize W0.alloc (.cells (L.map Value.string).toArray 9) = V at hb hcc hBf ⊢
  clear HL HW hcell
  refine wpAnyH_ready (rs := [7]) (by kernel_rfl) (by simp) ?_
  refine AllReadyH.consL rfl (fun K hK => ?_) AllReadyH.nil
  go_simp
  go_at_call 82
  refine hcc.mono ?_
  rintro e V2 ⟨rfl, rfl⟩
  go_simp
  refine hK.out _ _ hb (fun _ => ?_)
  clear hK K hcc
  simp only [List.setIfInBounds_toArray, List.set_cons_zero, List.set_cons_succ]
  refine wpAnyH_takeL (i := 8) (v := .bool (!v)) rfl (by kernel_rfl) (by kernel_rfl) (by kernel_rfl) (fun _ _ _ h => h) (Or.inl ⟨by rfl, fun w' hw' => by obtain ⟨y0, y1, y2⟩ := hcls w' hw'; go_simp⟩) hb ?_
  simp only [Act.put, List.setIfInBounds_toArray, List.set_cons_zero, List.set_cons_succ]
  refine wpAnyH_takeL (i := 9) (v := .bool (!v)) rfl (by kernel_rfl) (by kernel_rfl) (by kernel_rfl) (fun _ _ _ h => h) (Or.inl ⟨by rfl, fun w' hw' => by obtain ⟨y0, y1, y2⟩ := hcls w' hw'; go_simp⟩) hb ?_
  simp only [Act.put, List.setIfInBounds_toArray, List.set_cons_zero, List.set_cons_succ]
  refine wpAnyH_done (by kernel_rfl) ?_ _
  go_wp2
  go_ret
  exact ⟨by rw [← HV.out]; rfl, hBf⟩
theorem with1_enters : Enters 81 := enters Tryz.func81 (by kernel_rfl) (by kernel_rfl)
theorem MaxL.fr {lo hi : Nat} {w w' : World} (h : MaxL w) (hF : Fr lo hi w w') (hlo : 0 < lo) : MaxL w' := by
  obtain ⟨m, h⟩ := h
  exact ⟨m, (World.cell?_of_block (a := ⟨0, 0, none⟩) (hF.block _ (World.block_lt_of_cell? _ _ h) (fun hh => Nat.not_le_of_lt hlo hh.1))).trans h⟩
theorem cell_fr {lo hi b : Nat} {v : Value} {w w' : World} (h : w.cell? ⟨b, 0, none⟩ = some v) (hF : Fr lo hi w w') (hlo : b < lo) : w'.cell? ⟨b, 0, none⟩ = some v :=
  (World.cell?_of_block (a := ⟨b, 0, none⟩) (hF.block _ (World.block_lt_of_cell? _ _ h) (fun hh => Nat.not_le_of_lt hlo hh.1))).trans h
set_option maxRecDepth 100000 in
set_option maxHeartbeats 2000000 in
theorem EntriesWith_impl (Al : Option Addr) (cl : Nat) (l : List Ent) (p : ByteArray) (w : World) (hll : l.length ≤ 1048576) (hml : ∀ x ∈ l, x.t.size ≤ 1048576) (hSl : Ents w 0 w.heap.size Al l) (_hcl : l.length ≤ cl) (hp : p.size ≤ 1048576) (hS : Said w) (hX : MaxL w) : Calls Tryz.prog 31 #[.slice Al l.length cl, .string p] w (RS2 Ints.cells 1 w (witR l p) (witOk l p)) := by
  obtain ⟨W1, hW1⟩ : ∃ W1, W1 = (w.alloc (.cells #[.slice Al l.length cl] 24)).alloc (.cells #[.string p] 9) := ⟨_, rfl⟩
  have hB1 : Below w.heap.size w W1 := by rw [hW1]; exact ((Below.refl _ _).alloc (Nat.le_refl _) _).alloc (by simp) _
  have q1 : W1.cell? ⟨w.heap.size, 0, none⟩ = some (.slice Al l.length cl) := by rw [hW1]; simp
  have q2 : W1.cell? ⟨w.heap.size + 1, 0, none⟩ = some (.string p) := by rw [hW1]; simp
  have hg := isLog_any Al cl l W1 (big hll) (bigs hml) (hSl.below hB1).all
  have hXg : 0 < w.heap.size := by obtain ⟨m, h⟩ := hX; exact World.block_lt_of_cell? _ _ h
  rw [hW1] at hg hB1 q1 q2
  clear hW1 W1
  go_enter Tryz.func31, Tryz.ntmps31
  go_wp2_with fail
  refine hg.mono ?_
  rintro e w1 ⟨rfl, hb⟩
  have hb1 := Below.on' hB1 hb
  replace q1 := keep hb q1
  replace q2 := keep hb q2
  clear hg hB1 hb
  by_cases g1 : logB l = true
  rotate_left
  · have g1 : logB l = false := by simpa using g1
    have HN := Lib.hid (wit_no (l := l) (p := p) (by rw [witOk, g1]; rfl))
    rw [g1]
    go_wp2
    go_ret2
    exact RS2.nil_ HN.out.1 HN.out.2 hb1
  rw [g1]
  go_wp2_with fail
  refine (isText_any p (big hp) _).mono ?_
  rintro e w2 ⟨rfl, hb⟩
  have hb2 := Below.on' hb1 hb
  replace q1 := keep hb q1
  replace q2 := keep hb q2
  clear hb
  by_cases g2 : textB p 40 = true
  rotate_left
  · have g2 : textB p 40 = false := by simpa using g2
    have HN := Lib.hid (wit_no (l := l) (p := p) (by rw [witOk, wordB, textB_20, g2, Bool.false_and, Bool.false_and, Bool.and_false]))
    rw [g2]
    go_wp2
    go_ret2
    exact RS2.nil_ HN.out.1 HN.out.2 hb2
  rw [g2]
  by_cases g3 : p.size ≤ 20
  rotate_left
  · have g3' : (20 : Int) < p.size := by omega
    have HN := Lib.hid (wit_no (l := l) (p := p) (by rw [witOk, wordB, textB_20, decide_eq_false g3, Bool.and_false, Bool.false_and, Bool.and_false]))
    go_wp2
    go_ret2
    exact RS2.nil_ HN.out.1 HN.out.2 hb2
  have g3' : ¬ (20 : Int) < p.size := by omega
  have g3'' : (p.size : Int) ≤ 20 := by omega
  have hcc : ∀ W, Calls Tryz.prog 79 #[.string p, .string ⟨#[32]⟩] W fun e w' => e = .returned (.bool (p.data.toList.contains 32)) ∧ w' = W := fun W => by
    have := Tryz.strings_Contains_one p 32 W
    rw [← Lib.contains_iff_indexByte] at this
    exact this
  go_wp2_with fail
  refine (hcc _).mono ?_
  rintro e w3 ⟨rfl, rfl⟩
  clear hcc
  by_cases g4 : p.data.toList.contains 32 = true
  · have HN := Lib.hid (wit_no (l := l) (p := p) (by rw [witOk, wordB, g4, Bool.not_true, Bool.and_false, Bool.and_false]))
    rw [g4]
    go_wp2
    go_ret2
    exact RS2.nil_ HN.out.1 HN.out.2 hb2
  have g4 : p.data.toList.contains 32 = false := by simpa using g4
  have HR : Hid (witR l p = (liveR l).filter (fun i => hasW l p i.toNat) ∧ witOk l p = true) := Lib.hid (by
    have h : witOk l p = true := by rw [witOk, wordB, textB_20, g1, g2, g4, decide_eq_true g3]; rfl
    exact ⟨by rw [witR, if_pos h], h⟩)
  rw [g4]
  clear g1 g2 g3 g4
  go_wp2_with fail
  refine (liveEntries_own Al cl l _ hll hml (hSl.below hb2).all (hS.below hb2)).mono ?_
  rintro e w4 ⟨A, c, rfl, hO, hb⟩
  have hb4 := Below.on' hb2 hb
  have hzz := hb2.size
  have b1l : w.heap.size < w3.heap.size := World.block_lt_of_cell? _ _ q1
  have b2l : w.heap.size + 1 < w3.heap.size := World.block_lt_of_cell? _ _ q2
  replace q1 := keep hb q1
  replace q2 := keep hb q2
  have hI := hO.sl Ints.len
  have hSw := hSl.below hb4
  have hXw := hX.below hb4
  have hp' : PredI 81 #[.pointer (some ⟨w.heap.size, 0, none⟩), .pointer (some ⟨w.heap.size + 1, 0, none⟩)] (fun i => !hasW l p i.toNat) w3.heap.size w4.heap.size (liveR l) w4 := by
    intro W i hi hF
    obtain ⟨k, hik, hk⟩ := (idxF_mem (liveF l) 0 i).1 hi
    obtain rfl : i = (k : Int) := by omega
    have hkl : k < l.length := by have := (List.getElem?_eq_some_iff.1 hk).1; rwa [liveF_len] at this
    exact with1_any Al cl l p k w.heap.size (w.heap.size + 1) W hml (hSw.fr hF (.inl (by omega))).all hkl (cell_fr q1 hF (by omega)) (cell_fr q2 hF (by omega)) (hXw.fr hF (by omega))
  have hd := DeleteFuncI_any 81 _ (fun i => !hasW l p i.toNat) A c w3.heap.size w4.heap.size (liveR l) w4 with1_enters (Nat.le_trans (liveR_len l) hll) hO.cap hO.capMax hI hp'
  have hcap := hO.cap
  have hfl : ((liveR l).filter fun x => !(fun i : Int => !hasW l p i.toNat) x) = (liveR l).filter (fun i => hasW l p i.toNat) := by
    congr 1
    funext x
    simp
  rw [hfl] at hd
  have hlenF : ((liveR l).filter (fun i => hasW l p i.toNat)).length ≤ c := Nat.le_trans (List.length_filter_le _ _) hcap
  generalize (liveR l).filter (fun i => hasW l p i.toNat) = R at hd HR hlenF
  clear hp' hI hO hSw hXw hfl hb
  go_wp2_with fail
  refine hd.mono ?_
  rintro e w5 ⟨rfl, hI5, hF5⟩
  have hb5 : Below w.heap.size w w5 := hb4.trans (hF5.below (by omega) (by have := hb4.size; omega))
  have hs5 := hF5.size
  clear hd
  go_wp2
  go_ret2
  exact RS2.of HR.out.1 rfl HR.out.2 (hI5.mono (Nat.le_refl _) hs5 (Nat.le_refl _)) hzz hlenF hb5
end Go.Proofs.YtmdmcjhodhphgaaGreatDoor

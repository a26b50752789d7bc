/- Reading a log's text, by the program and by the reference. Conditions: texts of at most 2^20; the listed variables as Said and MaxL have them. -/
import Derived.Test.YtmdmcjhodhphgaaGreatDoorPe
import Derived.Test.YtmdmcjhodhphgaaGreatDoorCopy
namespace Go.Proofs.YtmdmcjhodhphgaaGreatDoor
open Go.RowKit

/-- The log l and the answer b that belong to the text s. -/
def LogOf (s : ByteArray) (l : List Ent) (b : Bool) : Prop := (b = true → logB l = true ∧ (allT l).data.toList = s.data.toList) ∧ (b = false → l = []) ∧ ∀ l', logB l' = true → (allT l').data.toList = s.data.toList → b = true
theorem LogOf.ex (s : ByteArray) : ∃ l b, LogOf s l b := by
  by_cases h : ∃ l, logB l = true ∧ (allT l).data.toList = s.data.toList
  · obtain ⟨l, h1, h2⟩ := h
    exact ⟨l, true, fun _ => ⟨h1, h2⟩, fun h => (by cases h), fun _ _ _ => rfl⟩
  · exact ⟨[], false, fun h => (by cases h), fun _ => rfl, fun l h1 h2 => absurd ⟨l, h1, h2⟩ h⟩
theorem LogOf.len {s : ByteArray} {l : List Ent} {b : Bool} (h : LogOf s l b) : l.length ≤ 1048576 := by
  cases b with
  | true => have := (logB_ents (h.1 rfl).1).2; omega
  | false => rw [h.2.1 rfl]; exact Nat.zero_le _
/-- Pieces put together with a byte between them. -/
def joinL (b : UInt8) : List (List UInt8) → List UInt8
  | [] => []
  | [x] => x
  | x :: y :: r => x ++ b :: joinL b (y :: r)
theorem joinL_cons (b : UInt8) (x : List UInt8) {r : List (List UInt8)} (h : r ≠ []) : joinL b (x :: r) = x ++ b :: joinL b r := by
  cases r with
  | nil => exact absurd rfl h
  | cons y r => rfl
theorem split_join (b : UInt8) : ∀ s : List UInt8, joinL b (splitS b [] s) = s
  | [] => rfl
  | c :: r => by
    have ih := split_join b r
    have hn := splitS_ne b [] r
    rw [splitS]
    split
    · rename_i h
      rw [joinL_cons b [] hn, ih, h]
      rfl
    · cases e : splitS b [] r with
      | nil => exact absurd e hn
      | cons x q =>
        rw [e] at ih
        cases q with
        | nil => simp only [joinL] at ih; simp [joinL, ih]
        | cons y q => simp only [joinL] at ih; simp [joinL, ih]
theorem join_lines : ∀ l : List Ent, joinL 10 (l.map (fun e => (lineT e).data.toList) ++ [[]]) = (allT l).data.toList
  | [] => by rw [allT_data]; rfl
  | e :: l => by
    rw [List.map_cons, List.cons_append, joinL_cons _ _ (by simp), join_lines l, allT_data, allT_data, List.flatMap_cons, List.append_assoc]
    rfl
theorem split_lines (t : List UInt8) : ∀ {l : List Ent}, entsB l → splitS 10 t (allT l).data.toList = l.map (fun e => (lineT e).data.toList ++ t) ++ [[]]
  | [], _ => by rw [allT_data]; rfl
  | e :: l, h => by
    have ih := split_lines t (l := l) (fun x hx => h x (by simp [hx]))
    rw [allT_data] at ih ⊢
    rw [List.flatMap_cons, List.append_assoc, show ([10] : List UInt8) ++ l.flatMap (fun e => (lineT e).data.toList ++ [10]) = 10 :: l.flatMap (fun e => (lineT e).data.toList ++ [10]) from rfl, splitS_cut t _ (line_nonl (h e (by simp))), ih]
    rfl
theorem empty_of {x : ByteArray} (h : x.data.toList = []) : x.toList.isEmpty = true := by rw [Go.ByteArray.toList_eq, h]; rfl
theorem of_empty {x : ByteArray} (h : x.toList.isEmpty = true) : x.data.toList = [] := by rw [Go.ByteArray.toList_eq] at h; exact List.isEmpty_iff.1 h
set_option maxRecDepth 100000 in
set_option maxHeartbeats 4000000 in
theorem ParseLog_spec (s : ByteArray) (l : List Ent) (b : Bool) (hg : LogOf s l b) (w : World) (hs : s.size ≤ 1048576) : Calls Tryz.prog 26 #[.string s] w (RS2 Ent.cells 4 w l b) := by
  obtain ⟨i0, hi0, hz0, hz1, hz2⟩ := info_parts Ent.info
  replace hg := Lib.hid hg
  have HS : Hid (b = true → splitS 10 [] s.data.toList = l.map (fun e => (lineT e).data.toList) ++ [[]]) := Lib.hid (fun hb => by
    obtain ⟨h1, h2⟩ := hg.out.1 hb
    have := split_lines [] (logB_ents h1).1
    rw [h2] at this
    simpa using this)
  have HN : Hid ((b = true → False) → l = [] ∧ b = false) := Lib.hid (fun h => by
    cases b with
    | true => exact (h rfl).elim
    | false => exact ⟨hg.out.2.1 rfl, rfl⟩)
  have hc1 : ∀ W, Calls Tryz.prog 76 #[.string s, .int .u8 10] W fun e w' => ∃ A c L, e = .returned (.slice A L.length c) ∧ Own Strs.cells 1 9 w' W.heap.size A c L ∧ (L.length ≤ s.size + 1 ∧ ∀ x ∈ L, x.size ≤ s.size) ∧ Hid (L.map (fun x => x.data.toList) = splitS 10 [] s.data.toList) ∧ Below W.heap.size W w' := fun W => l1Split_any s 10 hs W
  go_enter Tryz.func26, Tryz.ntmps26
  go_wp2_with fail
  refine (hc1 _).mono ?_
  rintro e w1 ⟨Al, cl, L, rfl, hO, ⟨_, hLs⟩, HL, hB1⟩
  have hne : Hid (L ≠ []) := Lib.hid (fun e => by
    have := HL.out
    rw [e] at this
    exact splitS_ne _ _ _ this.symm)
  have hLS := hO.sl Strs.len
  have hcap := hO.cap
  have hzz := hB1.size
  have HLn : Hid (b = true → L.length = l.length + 1) := Lib.hid (fun hb => by
    have := HL.out
    rw [HS.out hb] at this
    have := congrArg List.length this
    simpa using this)
  clear hc1 hO
  by_cases h21 : L.length ≤ 21
  rotate_left
  · have h21' : (21 : Int) < L.length := by omega
    have HF := Lib.hid (HN.out (fun hb => h21 (by have h1 := HLn.out hb; have h2 := (logB_ents (hg.out.1 hb).1).2; omega)))
    clear hi0 hz0 hz1 hz2
    go_wp2
    go_ret2
    exact RS2.nil_ HF.out.1 HF.out.2 hB1
  have h21' : (L.length : Int) ≤ 21 := by omega
  have hpos : 1 ≤ L.length := by
    rcases Nat.eq_zero_or_pos L.length with h | h
    · exact absurd (List.eq_nil_of_length_eq_zero h) hne.out
    · exact h
  obtain ⟨n, hn⟩ : ∃ n, L.length = n + 1 := ⟨L.length - 1, by omega⟩
  obtain ⟨xl, hxl, _⟩ := get_lt (show n < L.length by omega)
  obtain ⟨ab, ao, rfl, _, _, _, q0, _⟩ := Strs.at1 hLS hxl
  have hw1 : IntKind.i64.wrap ((L.length : Int) - 1) = (n : Int) := by rw [show (L.length : Int) - 1 = n by omega]; exact IntWalk.i64_in _ (by omega)
  have hnl : (n : Int) < L.length := by omega
  have hnL : n < L.length := by omega
  have HLa : Hid (b = true → xl.data.toList = []) := Lib.hid (fun hb => by
    have h1 := HL.out
    have h2 := HLn.out hb
    rw [HS.out hb] at h1
    have h3 : (L.map (fun x => x.data.toList))[n]? = some xl.data.toList := by rw [List.getElem?_map, hxl]; rfl
    rw [h1, List.getElem?_append_right (by rw [List.length_map]; omega)] at h3
    rw [List.length_map, show n - l.length = 0 by omega] at h3
    simpa using h3.symm)
  have HXl : Hid (L[n]? = some xl) := Lib.hid hxl
  have HNn : Hid (L.length = n + 1) := Lib.hid hn
  clear hxl hn
  by_cases hem : xl.toList.isEmpty = true
  rotate_left
  · have hem' : xl.toList.isEmpty = false := by simpa using hem
    have HF := Lib.hid (HN.out (fun hb => hem (empty_of (HLa.out hb))))
    clear hi0 hz0 hz1 hz2 hem
    go_wp2
    go_ret2
    exact RS2.nil_ HF.out.1 HF.out.2 hB1
  have HEm : Hid (xl.data.toList = []) := Lib.hid (of_empty hem)
  have hncl : n ≤ cl := by omega
  have hnLe : (n : Int) ≤ L.length := by omega
  go_wp2_with fail
  clear q0 hem HLa hw1
  go_loopw [5, 30] (fun o i wr => ∃ (k : Nat) (A : Option Addr) (c : Nat) (r : List Ent), k ≤ n ∧ i = .int .i64 k ∧ o = .slice A r.length c ∧ r.length ≤ k ∧ Own Ent.cells 4 33 wr w1.heap.size A c r ∧ Hid (entsB r ∧ (b = true → r = l.take k) ∧ r.map (fun e => (lineT e).data.toList) = (L.take k).map (fun x => x.data.toList)) ∧ Below w1.heap.size w1 wr) (fun _ i _ => n - (intOf i).toNat)
  case atStart => exact ⟨0, none, 0, [], Nat.zero_le _, rfl, rfl, Nat.zero_le _, Own.nil_, Lib.hid ⟨fun e he => (by cases he), fun _ => rfl, rfl⟩, Below.refl _ _⟩
  case round =>
    obtain ⟨k, A, c, r, hk, rfl, rfl, hr, hOr, HR, hB⟩ := hrel
    have hzr := hB.size
    by_cases hlt : k < n
    · obtain ⟨x, hx, hxm⟩ := get_lt (show k < L.length by omega)
      have hxs := hLs x hxm
      obtain ⟨_, _, e, _, _, _, c0, _⟩ := Strs.at1 (hLS.below hB) hx
      cases e
      have HX := Lib.hid hx
      clear hx hxm
      go_wp2_with fail
      refine (lgParse_any x (by omega) _).mono ?_
      rintro e w2 ⟨⟨er, en, em, et⟩, ok, rfl, HP, hb⟩
      dsimp only
      have hB2 : Below w1.heap.size w1 w2 := Below.on' hB hb
      have hO2 := hOr.below hb
      have hz2s := hB2.size
      clear hb hOr c0
      -- if s is a log's text, its k-th line is this one
      have HK : Hid (b = true → ok = true ∧ l[k]? = some ⟨er, en, em, et⟩) := Lib.hid (fun hb => by
        obtain ⟨h1, h2⟩ := hg.out.1 hb
        have h3 := HL.out
        rw [HS.out hb] at h3
        have h4 : (L.map (fun x => x.data.toList))[k]? = some x.data.toList := by rw [List.getElem?_map, HX.out]; rfl
        have h5 := HLn.out hb
        have h6 := HNn.out
        rw [h3, List.getElem?_append_left (by rw [List.length_map]; omega), List.getElem?_map] at h4
        cases h7 : l[k]? with
        | none => rw [h7] at h4; cases h4
        | some y =>
          rw [h7] at h4
          have h8 : (lineT y).data.toList = x.data.toList := Option.some.inj h4
          obtain ⟨h9, h10⟩ := HP.out.2.2 y ((logB_ents h1).1 y (List.mem_of_getElem? h7)) h8
          exact ⟨h9, by rw [h10]⟩)
      cases ok with
      | false =>
        have HF := Lib.hid (HN.out (fun hb => by have := (HK.out hb).1; cases this))
        clear hi0 hz0 hz1 hz2 HK HP
        go_wp2
        go_ret2
        exact RS2.nil_ HF.out.1 HF.out.2 ((Below.on' hB1 hB2).alloc (Below.on' hB1 hB2).size _)
      | true =>
        have hok : Hid (okE ⟨er, en, em, et⟩ ∧ (lineT ⟨er, en, em, et⟩).data.toList = x.data.toList) := Lib.hid (HP.out.1 rfl)
        have hE := R4.new w2 (.int .i64 er) (.int .i64 en) (.int .i64 em) (.string et) 33 _ rfl
        obtain ⟨e0, e1, e2, e3, _, _, _, _⟩ := id hE
        clear HP
        go_wp2_with (at_builtin; refine wpList_append_one _ rfl (.tmp 41) (.tmp 43) _ rfl i0 _ _ Tryz.underlying24 hi0 hz0 hz1 hz2 rfl (by omega) Ent.len Ent.one ⟨er, en, em, et⟩ _ ((hO2.alloc _).alloc _) rfl rfl (new_cells_at _ _ _ _ _ (by simp) rfl) (by unfold maxLen; omega) (by omega) (by simp; omega) ?_; intro A2 c2 wb L2 hL2 hO3 hb2)
        have hlen : L2.length = r.length + 1 := by rw [hL2.out]; simp
        have hlen2 : L2.length ≤ k + 1 := by omega
        have hBc : Below w1.heap.size w1 wb := Below.trans (by go_grown) hb2
        have HR2 : Hid (entsB L2 ∧ (b = true → L2 = l.take (k + 1)) ∧ L2.map (fun e => (lineT e).data.toList) = (L.take (k + 1)).map (fun x => x.data.toList)) := Lib.hid (by
          obtain ⟨h1, h2, h3⟩ := HR.out
          rw [hL2.out]
          refine ⟨fun e he => ?_, fun hb => ?_, ?_⟩
          · rcases List.mem_append.1 he with he | he
            · exact h1 e he
            · obtain rfl := List.mem_singleton.1 he; exact hok.out.1
          · rw [take_snoc (HK.out hb).2, h2 hb]
          · rw [List.map_append, h3, take_snoc HX.out, List.map_append, List.map_singleton, List.map_singleton, hok.out.2])
        clear hb2 hO2 HR HK hok hL2 hlen hE e0 e1 e2 e3
        go_roundw
        case rel => exact ⟨k + 1, A2, c2, L2, by omega, by go_num, rfl, hlen2, hO3, HR2, hBc⟩
        case measure => simp [intOf]; omega
    · obtain rfl : k = n := by omega
      have HFin : Hid (entsB r ∧ (b = true → r = l) ∧ (allT r).data.toList = s.data.toList) := Lib.hid (by
        obtain ⟨h1, h2, h3⟩ := HR.out
        have h6 := HNn.out
        refine ⟨h1, fun hb => ?_, ?_⟩
        · have h5 := HLn.out hb
          rw [h2 hb, List.take_of_length_le (by omega)]
        · have h7 : L = L.take k ++ [xl] := by rw [← take_snoc HXl.out, List.take_of_length_le (by omega)]
          have h8 := HL.out
          rw [h7, List.map_append, ← h3, List.map_singleton, HEm.out] at h8
          rw [← join_lines, h8, split_join])
      clear HR HL HS HLn HNn HXl HEm hi0 hz0 hz1 hz2
      have hents : ∀ x ∈ r, x.t.size ≤ maxLen := fun x hx => by
        have := (textB_in (entB_in (HFin.out.1 x hx)).2.2.2).1.2
        unfold maxLen; omega
      have hrS := (hOr.sl Ent.len)
      go_wp2_with fail
      refine (lgGood_any A c r _ (by unfold maxLen; omega) hents hrS.all).mono ?_
      rintro e w3 ⟨rfl, hb⟩
      have hB3 := Below.on' hB hb
      have hS3 := (hrS.below hb).mono (Nat.le_refl _) hb.size (Nat.le_refl _)
      have hcr := hOr.cap
      by_cases g : logB r = true
      · have HG := Lib.hid (hg.out.2.2 r g HFin.out.2.2)
        rw [g]
        go_wp2
        go_ret2
        exact RS2.of (HFin.out.2.1 HG.out).symm rfl HG.out hS3 hzz hcr (Below.on' hB1 hB3)
      · have HF := Lib.hid (HN.out (fun hb => g (by rw [HFin.out.2.1 hb]; exact (hg.out.1 hb).1)))
        have g : logB r = false := by simpa using g
        rw [g]
        go_wp2
        go_ret2
        exact RS2.nil_ HF.out.1 HF.out.2 (Below.on' hB1 hB3)
theorem trim_nl (l p : List UInt8) : Lib.trimSuffix (l ++ p) p = l := by
  have h : Lib.hasSuffix (l ++ p) p = true := List.isSuffixOf_iff_suffix.2 ⟨l, rfl⟩
  rw [Lib.trimSuffix, if_pos h, List.length_append, Nat.add_sub_cancel, List.take_left]
theorem splitA_sizes (b : UInt8) (sv : Nat) : ∀ (k : Nat) (t : ByteArray) (n : Nat), t.size ≤ n → ∀ x ∈ Lib.splitB ⟨#[b]⟩ sv k t, x.size ≤ n := by
  intro k
  induction k with
  | zero => intro t n ht x hx; rw [Lib.splitB_zero] at hx; obtain rfl := List.mem_singleton.1 hx; exact ht
  | succ k ih =>
    intro t n ht x hx
    unfold Lib.splitB at hx
    split at hx
    · obtain rfl := List.mem_singleton.1 hx; exact ht
    · rcases List.mem_cons.1 hx with rfl | hx
      · rw [ByteArray.size_extract]; omega
      · exact ih _ n (by rw [ByteArray.size_extract]; omega) x hx
theorem splitAfter_any (s : ByteArray) (b : UInt8) (hs : s.size ≤ 1048576) (w : World) (hX : MaxL w) : Calls Tryz.prog 73 #[.string s, .string ⟨#[b]⟩] w fun e w' => ∃ L : List ByteArray, e = .returned (.slice (some ⟨w.heap.size, 0, none⟩) L.length L.length) ∧ w' = w.alloc (.cells (L.map Value.string).toArray 9) ∧ Hid (L.map (fun x => x.data.toList) = splitS b [b] s.data.toList) ∧ L.length ≤ 1048577 ∧ ∀ x ∈ L, x.size ≤ s.size := by
  obtain ⟨m, hm⟩ := hX
  have hl1 : (Lib.splitB ⟨#[b]⟩ 1 (Lib.countB s ⟨#[b]⟩) s).length = Lib.countB s ⟨#[b]⟩ + 1 := Lib.splitB_all ⟨#[b]⟩ (Nat.le_refl 1) 1 _ s rfl
  have hl2 : Lib.countB s ⟨#[b]⟩ ≤ s.size := Lib.countB_le ⟨#[b]⟩ (Nat.le_refl 1) s.size s (Nat.le_refl _)
  have hsz := splitA_sizes b 1 (Lib.countB s ⟨#[b]⟩) s s.size (Nat.le_refl _)
  have HS : Hid ((Lib.splitB ⟨#[b]⟩ 1 (Lib.countB s ⟨#[b]⟩) s).map (fun x => x.data.toList) = splitS b [b] s.data.toList) := Lib.hid ((Lib.splitB_data ⟨#[b]⟩ 1 (Lib.countB s ⟨#[b]⟩) s).trans (splitK_eq b [b] (.inr rfl) s.data.toList))
  have hc : Calls Tryz.prog 97 #[.string s, .string ⟨#[b]⟩, .int .i64 1, .int .i64 (-1)] w fun e w' => e = .returned (.slice (some ⟨w.heap.size, 0, none⟩) (Lib.splitB ⟨#[b]⟩ 1 (Lib.countB s ⟨#[b]⟩) s).length (Lib.splitB ⟨#[b]⟩ 1 (Lib.countB s ⟨#[b]⟩) s).length) ∧ w' = w.alloc (.cells ((Lib.splitB ⟨#[b]⟩ 1 (Lib.countB s ⟨#[b]⟩) s).map Value.string).toArray 9) := by
    have := Tryz.strings_genSplit s ⟨#[b]⟩ 1 (-1) (Lib.countB s ⟨#[b]⟩ + 1) m w (by omega) hm (Nat.le_refl 1) (Nat.le_refl 1) (by decide) (by decide) (by rw [if_pos (by decide)]; omega)
    rw [Nat.add_sub_cancel, ← hl1, Lib.cellsOf_full] at this
    exact this
  generalize Lib.splitB ⟨#[b]⟩ 1 (Lib.countB s ⟨#[b]⟩) s = L at hl1 hsz HS hc
  have hLb : L.length ≤ 1048577 := by omega
  clear hl1 hl2
  go_enter Tryz.func73, Tryz.ntmps73
  go_wp2_with (go_at_call 97; refine hc.mono ?_; rintro e w' ⟨rfl, rfl⟩)
  go_ret
  exact ⟨L, rfl, rfl, HS, hLb, hsz⟩
set_option maxRecDepth 100000 in
set_option maxHeartbeats 4000000 in
theorem ParseLog_impl (s : ByteArray) (l : List Ent) (b : Bool) (hg : LogOf s l b) (w : World) (hs : s.size ≤ 1048576) (hS : Said w) (hX : MaxL w) : Calls Tryz.prog 25 #[.string s] w (RS2 Ent.cells 4 w l b) := by
  obtain ⟨i0, hi0, hz0, hz1, hz2⟩ := info_parts Ent.info
  replace hg := Lib.hid hg
  have HS : Hid (b = true → splitS 10 [10] s.data.toList = l.map (fun e => (lineT e).data.toList ++ [10]) ++ [[]]) := Lib.hid (fun hb => by
    obtain ⟨h1, h2⟩ := hg.out.1 hb
    have := split_lines [10] (logB_ents h1).1
    rwa [h2] at this)
  have HN : Hid ((b = true → False) → l = [] ∧ b = false) := Lib.hid (fun h => by
    cases b with
    | true => exact (h rfl).elim
    | false => exact ⟨hg.out.2.1 rfl, rfl⟩)
  go_enter Tryz.func25, Tryz.ntmps25
  go_wp2_with fail
  refine (splitAfter_any s 10 hs _ hX).mono ?_
  rintro e w1 ⟨L, rfl, rfl, HL, hL1, hLs⟩
  have hB1 : Below w.heap.size w (w.alloc (.cells (L.map Value.string).toArray 9)) := (Below.refl _ _).alloc (Nat.le_refl _) _
  have hcell : ∀ k x, L[k]? = some x → (w.alloc (.cells (L.map Value.string).toArray 9)).cell? ⟨w.heap.size, k, none⟩ = some (.string x) := fun k x hx => by
    rw [World.cell?_alloc_at _ _ _ _ rfl]
    simp [hx]
  generalize w.alloc (.cells (L.map Value.string).toArray 9) = w1 at hB1 hcell ⊢
  have hzz := hB1.size
  have HLn : Hid (b = true → L.length = l.length + 1) := Lib.hid (fun hb => by
    have := HL.out
    rw [HS.out hb] at this
    have := congrArg List.length this
    simpa using this)
  have HLk : Hid (b = true → ∀ k x, L[k]? = some x → (∃ y, l[k]? = some y ∧ x.data.toList = (lineT y).data.toList ++ [10]) ∨ (k = l.length ∧ x.data.toList = [])) := Lib.hid (fun hb k x hx => by
    have h3 := HL.out
    rw [HS.out hb] at h3
    have h4 : (L.map (fun x => x.data.toList))[k]? = some x.data.toList := by rw [List.getElem?_map, hx]; rfl
    have h5 := HLn.out hb
    have h6 := (List.getElem?_eq_some_iff.1 hx).1
    rw [h3] at h4
    by_cases hk : k < l.length
    · left
      rw [List.getElem?_append_left (by rw [List.length_map]; exact hk), List.getElem?_map] at h4
      cases h7 : l[k]? with
      | none => rw [h7] at h4; cases h4
      | some y => rw [h7] at h4; exact ⟨y, rfl, (Option.some.inj h4).symm⟩
    · right
      have hkl : k = l.length := by omega
      rw [List.getElem?_append_right (by rw [List.length_map]; omega), List.length_map, hkl, Nat.sub_self] at h4
      exact ⟨hkl, by simpa using h4.symm⟩)
  go_wp2_with fail
  go_loopw [4, 12] (fun o i wr => ∃ (k : Nat) (A : Option Addr) (c : Nat) (r : List Ent), k ≤ L.length ∧ i = .int .i64 k ∧ o = .slice A r.length c ∧ r.length ≤ 20 ∧ Own Ent.cells 4 33 wr w1.heap.size A c r ∧ Hid (entsB r ∧ (b = true → r = l.take k)) ∧ Below w1.heap.size w1 wr) (fun _ i _ => L.length - (intOf i).toNat)
  case atStart => exact ⟨0, none, 0, [], Nat.zero_le _, rfl, rfl, Nat.zero_le _, Own.nil_, Lib.hid ⟨fun e he => (by cases he), fun _ => rfl⟩, Below.refl _ _⟩
  case round =>
    obtain ⟨k, A, c, r, hk, rfl, rfl, hr, hOr, HR, hB⟩ := hrel
    have hzr := hB.size
    have hBw := Below.on' hB1 hB
    by_cases hlt : k < L.length
    · obtain ⟨x, hx, hxm⟩ := get_lt hlt
      have hxs := hLs x hxm
      have c0 := keep hB (hcell k x hx)
      have HX := Lib.hid (fun hb => HLk.out hb k x hx)
      clear hx hxm
      by_cases hem : x.toList.isEmpty = true
      · have HR2 : Hid (entsB r ∧ (b = true → r = l.take (k + 1))) := Lib.hid ⟨HR.out.1, fun hb => by
          rcases HX.out hb with ⟨y, _, h2⟩ | ⟨h1, _⟩
          · rw [of_empty hem] at h2
            have := congrArg List.length h2
            simp at this
          · rw [HR.out.2 hb, List.take_of_length_le (by omega), List.take_of_length_le (by omega)]⟩
        clear HR HX
        go_wp2
        go_roundw
        case rel => exact ⟨k + 1, A, c, r, by omega, by go_num, rfl, hr, hOr, HR2, hB⟩
        case measure => simp [intOf]; omega
      have hem' : x.toList.isEmpty = false := by simpa using hem
      obtain ⟨T, hT⟩ : ∃ T : ByteArray, Hid (T = ⟨(Lib.trimSuffix x.data.toList [10]).toArray⟩) := ⟨_, Lib.hid rfl⟩
      have hTd : Hid (T.data.toList = Lib.trimSuffix x.data.toList [10]) := Lib.hid (by rw [hT.out])
      have hTs : T.size ≤ 1048576 := by
        rw [Lib.size_eq, hTd.out]
        have := Lib.trimSuffix_le x.data.toList [10]
        rw [Lib.size_eq] at hxs
        omega
      have hct : ∀ W, Calls Tryz.prog 75 #[.string x, .string ⟨#[10]⟩] W fun e w' => e = .returned (.string T) ∧ w' = W := fun W => by
        have := Tryz.strings_TrimSuffix x ⟨#[10]⟩ W (by omega)
        rw [show (⟨#[10]⟩ : ByteArray).data.toList = [10] from rfl, ← hT.out] at this
        exact this
      have HXL : Hid (b = true → ∃ y, l[k]? = some y ∧ (lineT y).data.toList = T.data.toList) := Lib.hid (fun hb => by
        rcases HX.out hb with ⟨y, h1, h2⟩ | ⟨_, h2⟩
        · exact ⟨y, h1, by rw [hTd.out, h2, trim_nl]⟩
        · exact absurd (empty_of h2) hem)
      clear hem HX hTd hT
      go_wp2_with fail
      refine (hct _).mono ?_
      rintro e w2 ⟨rfl, rfl⟩
      clear hct
      go_wp2_with fail
      refine (parseEntry_any T hTs _ (hS.below hBw) (hX.below hBw)).mono ?_
      rintro e w2 ⟨⟨er, en, em, et⟩, ok, rfl, HP, hb⟩
      dsimp only
      have hB2 : Below w1.heap.size w1 w2 := Below.on' hB hb
      have hO2 := hOr.below hb
      have hz2s := hB2.size
      clear hb hOr c0 hBw
      have HK : Hid (b = true → ok = true ∧ l[k]? = some ⟨er, en, em, et⟩) := Lib.hid (fun hb => by
        obtain ⟨y, h1, h2⟩ := HXL.out hb
        obtain ⟨h9, h10⟩ := HP.out.2.2 y ((logB_ents (hg.out.1 hb).1).1 y (List.mem_of_getElem? h1)) h2
        exact ⟨h9, by rw [h1, h10]⟩)
      have hBf := (Below.on' hB1 hB2).alloc (Below.on' hB1 hB2).size (.cells #[.int .i64 er, .int .i64 en, .int .i64 em, .string et] 33)
      cases ok with
      | false =>
        have HF := Lib.hid (HN.out (fun hb => by have := (HK.out hb).1; cases this))
        clear hi0 hz0 hz1 hz2 HK HP
        go_wp2
        go_ret2
        exact RS2.nil_ HF.out.1 HF.out.2 hBf
      | true =>
        by_cases h20 : r.length = 20
        · have h20' : ((r.length : Int) == 20) = true := by simp; omega
          have HF := Lib.hid (HN.out (fun hb => by
            have h1 := HR.out.2 hb
            have h2 := (logB_ents (hg.out.1 hb).1).2
            have h3 := (List.getElem?_eq_some_iff.1 (HK.out hb).2).1
            rw [h1, List.length_take] at h20
            omega))
          clear hi0 hz0 hz1 hz2 HK HP HR h20
          go_wp2
          go_ret2
          exact RS2.nil_ HF.out.1 HF.out.2 hBf
        have h20' : ((r.length : Int) == 20) = false := by simp; omega
        have hok : Hid (okE ⟨er, en, em, et⟩) := Lib.hid (HP.out.1 rfl).1
        have hE := R4.new w2 (.int .i64 er) (.int .i64 en) (.int .i64 em) (.string et) 33 _ rfl
        obtain ⟨e0, e1, e2, e3, _, _, _, _⟩ := id hE
        clear HP
        go_wp2_with (at_builtin; refine wpList_append_one _ rfl (.tmp 31) (.tmp 33) _ rfl i0 _ _ Tryz.underlying24 hi0 hz0 hz1 hz2 rfl (by omega) Ent.len Ent.one ⟨er, en, em, et⟩ _ ((hO2.alloc _).alloc _) rfl rfl (new_cells_at _ _ _ _ _ (by simp) rfl) (by unfold maxLen; omega) (by omega) (by simp; omega) ?_; intro A2 c2 wb L2 hL2 hO3 hb2)
        have hlen : L2.length = r.length + 1 := by rw [hL2.out]; simp
        have hlen2 : L2.length ≤ 20 := by omega
        have hBc : Below w1.heap.size w1 wb := Below.trans (by go_grown) hb2
        have HR2 : Hid (entsB L2 ∧ (b = true → L2 = l.take (k + 1))) := Lib.hid (by
          obtain ⟨h1, h2⟩ := HR.out
          rw [hL2.out]
          refine ⟨fun e he => ?_, fun hb => ?_⟩
          · rcases List.mem_append.1 he with he | he
            · exact h1 e he
            · obtain rfl := List.mem_singleton.1 he; exact hok.out
          · rw [take_snoc (HK.out hb).2, h2 hb])
        clear hb2 hO2 HR HK hok hL2 hlen hE e0 e1 e2 e3 h20 h20'
        go_roundw
        case rel => exact ⟨k + 1, A2, c2, L2, by omega, by go_num, rfl, hlen2, hO3, HR2, hBc⟩
        case measure => simp [intOf]; omega
    · obtain rfl : k = L.length := by omega
      have HFin : Hid (entsB r ∧ (b = true → r = l)) := Lib.hid ⟨HR.out.1, fun hb => by rw [HR.out.2 hb, List.take_of_length_le (by have := HLn.out hb; omega)]⟩
      clear HR HL HS HLn HLk hi0 hz0 hz1 hz2 hcell
      have hents : ∀ x ∈ r, x.t.size ≤ maxLen := fun x hx => by
        have := (textB_in (entB_in (HFin.out.1 x hx)).2.2.2).1.2
        unfold maxLen; omega
      have hrS := (hOr.sl Ent.len)
      have hcr := hOr.cap
      go_wp2_with fail
      refine (isLog_any A c r _ (by unfold maxLen; omega) hents hrS.all).mono ?_
      rintro e w3 ⟨rfl, hb⟩
      have hB3 := Below.on' hB hb
      have hS3 := (hrS.below hb).mono (Nat.le_refl _) hb.size (Nat.le_refl _)
      clear hb
      by_cases g : logB r = true
      rotate_left
      · have HF := Lib.hid (HN.out (fun hb => g (by rw [HFin.out.2 hb]; exact (hg.out.1 hb).1)))
        have g : logB r = false := by simpa using g
        rw [g]
        go_wp2
        go_ret2
        exact RS2.nil_ HF.out.1 HF.out.2 (Below.on' hB1 hB3)
      rw [g]
      have hTab : TabW w := hS.tab
      go_wp2_with fail
      refine (entriesText_any A c r _ (by omega) HFin.out.1 hS3.all (hTab.below (Below.on' hB1 hB3))).mono ?_
      rintro e w4 ⟨rfl, hb⟩
      have hB4 := Below.on' hB3 hb
      have hS4 := (hS3.below hb).mono (Nat.le_refl _) hb.size (Nat.le_refl _)
      clear hb
      by_cases hq : (allT r).toList = s.toList
      · have HG := Lib.hid (hg.out.2.2 r g (pe_data hq))
        generalize allT r = T at hq ⊢
        go_wp2
        go_ret2
        exact RS2.of (HFin.out.2 HG.out).symm rfl HG.out hS4 hzz hcr (Below.on' hB1 hB4)
      · have hq' : ((allT r).toList == s.toList) = false := by simpa using hq
        have HF := Lib.hid (HN.out (fun hb => hq (by
          rw [HFin.out.2 hb, Go.ByteArray.toList_eq, Go.ByteArray.toList_eq]
          exact (hg.out.1 hb).2)))
        clear hq
        generalize allT r = T at hq' ⊢
        go_wp2
        go_ret2
        exact RS2.nil_ HF.out.1 HF.out.2 (Below.on' hB1 hB4)
end Go.Proofs.YtmdmcjhodhphgaaGreatDoor

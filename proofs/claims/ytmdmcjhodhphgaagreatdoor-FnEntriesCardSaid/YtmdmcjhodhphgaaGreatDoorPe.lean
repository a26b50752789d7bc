/- Reading an entry's text, by the program and by the reference. Conditions: texts of at most 2^20; the listed variables as Said and MaxL have them. -/
import Derived.Test.YtmdmcjhodhphgaaGreatDoorLine
import Derived.Test.YtmdmcjhodhphgaaGreatDoorRd
import Derived.Test.YtmdmcjhodhphgaaGreatDoorRn
import Derived.Test.YtmdmcjhodhphgaaGreatDoorBox
import Derived.Test.YtmdmcjhodhphgaaGreatDoorReg
import Derived.Test.YtmdmcjhodhphgaaGreatDoorCutA
import Derived.Test.YtmdmcjhodhphgaaGreatDoorInts
namespace Go.Proofs.YtmdmcjhodhphgaaGreatDoor
open Go.RowKit

abbrev okE (e : Ent) : Prop := entB e.r e.n e.m e.t = true
/-- What reading an entry returns. -/
def PeR (w : World) (s : ByteArray) (e : Ending) (w' : World) : Prop := ∃ (x : Ent) (b : Bool), e = .returned (.tuple #[.agg #[.int .i64 x.r, .int .i64 x.n, .int .i64 x.m, .string x.t], .bool b]) ∧
  Hid ((b = true → okE x ∧ (lineT x).data.toList = s.data.toList) ∧ (b = false → x = ⟨0, 0, 0, ⟨#[]⟩⟩) ∧ ∀ x', okE x' → (lineT x').data.toList = s.data.toList → b = true ∧ x = x') ∧ Below w.heap.size w w'
theorem PeR.no {w w' : World} {s : ByteArray} (h : ∀ x, okE x → (lineT x).data.toList ≠ s.data.toList) (hb : Below w.heap.size w w') : PeR w s (.returned (.tuple #[.agg #[.int .i64 0, .int .i64 0, .int .i64 0, .string ⟨#[]⟩], .bool false])) w' :=
  ⟨⟨0, 0, 0, ⟨#[]⟩⟩, false, rfl, Lib.hid ⟨fun h => (by cases h), fun _ => rfl, fun m h1 h2 => absurd h2 (h m h1)⟩, hb⟩
theorem PeR.yes {w w' : World} {s : ByteArray} {x : Ent} (h : okE x) (ht : (lineT x).data.toList = s.data.toList) (hu : ∀ x', okE x' → (lineT x').data.toList = s.data.toList → x' = x) (hb : Below w.heap.size w w') : PeR w s (.returned (.tuple #[.agg #[.int .i64 x.r, .int .i64 x.n, .int .i64 x.m, .string x.t], .bool true])) w' :=
  ⟨x, true, rfl, Lib.hid ⟨fun _ => ⟨h, ht⟩, fun h => (by cases h), fun m' h1 h2 => ⟨rfl, (hu m' h1 h2).symm⟩⟩, hb⟩
theorem pe_data {a b : ByteArray} (h : a.toList = b.toList) : a.data.toList = b.data.toList := by rwa [Go.ByteArray.toList_eq, Go.ByteArray.toList_eq] at h
theorem pe_inj {a b : ByteArray} (h : a.data.toList = b.data.toList) : a = b := by
  apply ByteArray.ext
  apply Array.ext'
  exact h
theorem pe_size {a b : ByteArray} (h : a.data.toList = b.data.toList) : a.size = b.size := by rw [Lib.size_eq, Lib.size_eq, h]
set_option maxRecDepth 100000 in
set_option maxHeartbeats 8000000 in
theorem lgParse_any (s : ByteArray) (hs : s.size ≤ 1048576) (w : World) : Calls Tryz.prog 77 #[.string s] w (PeR w s) := by
  have hR := R4.new w (.int .i64 0) (.int .i64 0) (.int .i64 0) (.string ⟨#[]⟩) 33 _ rfl
  have hB : Below w.heap.size w (w.alloc (.cells #[.int .i64 0, .int .i64 0, .int .i64 0, .string ⟨#[]⟩] 33)) := (Below.refl _ _).alloc (Nat.le_refl _) _
  have hc1 : ∀ W, Calls Tryz.prog 101 #[.string s, .int .u8 32] W fun e w' => ∃ x y : ByteArray, e = .returned (.tuple #[.string x, .string y]) ∧ (x.size ≤ s.size ∧ y.size ≤ s.size) ∧ Hid (∀ p r, s.data.toList = p ++ 32 :: r → 32 ∉ p → x.data.toList = p ∧ y.data.toList = r) ∧ Below W.heap.size W w' := fun W => lgSplit_any s 32 hs W
  by_cases h60 : s.size ≤ 60
  rotate_left
  · have h60' : (60 : Int) < s.size := by omega
    go_enter Tryz.func77, Tryz.ntmps77
    obtain ⟨y0, y1, y2, y3, _, _, _, _⟩ := id hR
    have HNO := Lib.hid (show ∀ x, okE x → (lineT x).data.toList ≠ s.data.toList from fun x h1 h2 => h60 (by have h3 := line_len h1; have h4 := pe_size h2; omega))
    go_wp2
    refine bodyPost_ret (by simp [results, Tryz.results77, go_sem, y0, y1, y2, y3]; try rfl) rfl ?_
    exact PeR.no HNO.out (by go_grown)
  have h60' : (s.size : Int) ≤ 60 := by omega
  go_enter Tryz.func77, Tryz.ntmps77
  go_wp2_with fail
  refine (hc1 _).mono ?_
  rintro e w1 ⟨x, y, rfl, ⟨hxs, hys⟩, H1, hb⟩
  replace hR := hR.below hb
  replace hB := Below.on' hB hb
  clear hb hc1
  have hc2 : ∀ W, Calls Tryz.prog 101 #[.string x, .int .u8 64] W fun e w' => ∃ x' y' : ByteArray, e = .returned (.tuple #[.string x', .string y']) ∧ (x'.size ≤ x.size ∧ y'.size ≤ x.size) ∧ Hid (∀ p r, x.data.toList = p ++ 64 :: r → 64 ∉ p → x'.data.toList = p ∧ y'.data.toList = r) ∧ Below W.heap.size W w' := fun W => lgSplit_any x 64 (by omega) W
  go_wp2_with fail
  refine (hc2 _).mono ?_
  rintro e w2 ⟨f, mi, rfl, ⟨hfs, hms⟩, H2, hb⟩
  replace hR := hR.below hb
  replace hB := Below.on' hB hb
  clear hb hc2
  have hc3 : ∀ W, Calls Tryz.prog 101 #[.string f, .int .u8 46] W fun e w' => ∃ x' y' : ByteArray, e = .returned (.tuple #[.string x', .string y']) ∧ (x'.size ≤ f.size ∧ y'.size ≤ f.size) ∧ Hid (∀ p r, f.data.toList = p ++ 46 :: r → 46 ∉ p → x'.data.toList = p ∧ y'.data.toList = r) ∧ Below W.heap.size W w' := fun W => lgSplit_any f 46 (by omega) W
  go_wp2_with fail
  refine (hc3 _).mono ?_
  rintro e w3 ⟨ro, nu, rfl, ⟨hrs, hns⟩, H3, hb⟩
  replace hR := hR.below hb
  replace hB := Below.on' hB hb
  clear hb hc3
  go_wp2_with fail
  refine (l1Read_any ro (by omega) _).mono ?_
  rintro e w4 ⟨r, rfl, N1, hb⟩
  replace hR := hR.below hb
  replace hB := Below.on' hB hb
  clear hb
  go_wp2_with fail
  refine (l1Read_any nu (by omega) _).mono ?_
  rintro e w5 ⟨n, rfl, N2, hb⟩
  replace hR := hR.below hb
  replace hB := Below.on' hB hb
  clear hb
  go_wp2_with fail
  refine (l1Read_any mi (by omega) _).mono ?_
  rintro e w6 ⟨m, rfl, N3, hb⟩
  replace hR := hR.below hb
  replace hB := Below.on' hB hb
  clear hb
  have HU : Hid (∀ x', okE x' → (lineT x').data.toList = s.data.toList → x' = ⟨r, n, m, y⟩) := Lib.hid (fun x' h1 h2 => by
    rw [lineT_data] at h2
    obtain ⟨q1, q2⟩ := H1.out _ _ h2.symm (line_nosp x')
    obtain ⟨q3, q4⟩ := H2.out _ _ q1 (line_noat x')
    obtain ⟨q5, q6⟩ := H3.out _ _ q3 (line_nodot _)
    obtain ⟨b1, b2, b3, _⟩ := entB_in h1
    have r1 := N1.out x'.r.toNat (by omega) q5
    have r2 := N2.out x'.n.toNat (by omega) q6
    have r3 := N3.out x'.m.toNat (by omega) q4
    have r4 := pe_inj q2
    obtain ⟨er, en, em, et⟩ := x'
    simp only at r1 r2 r3 r4 b1 b2 b3
    rw [r4, show r = er by omega, show n = en by omega, show m = em by omega])
  have hxt : y.size ≤ maxLen := big (by omega)
  have hwl := hR.lt
  have hE := R4.new w6 (.int .i64 r) (.int .i64 n) (.int .i64 m) (.string y) 33 _ rfl
  replace hR := hR.alloc (.cells #[.int .i64 r, .int .i64 n, .int .i64 m, .string y] 33)
  replace hB : Below w.heap.size w (w6.alloc (.cells #[.int .i64 r, .int .i64 n, .int .i64 m, .string y] 33)) := hB.alloc hB.size _
  clear H1 H2 H3 N1 N2 N3
  have hone : ∀ W, Calls Tryz.prog 89 #[.agg #[.int .i64 r, .int .i64 n, .int .i64 m, .string y]] W (RV W (.bool (entB r n m y))) := fun W => lgOne_any _ _ _ _ hxt W
  obtain ⟨e0, e1, e2, e3, _, _, _, _⟩ := id hE
  go_wp2_with fail
  refine (hone _).mono ?_
  rintro e wm ⟨rfl, hb⟩
  replace hB := Below.on' hB hb
  replace hE := hE.below hb
  replace hR := hR.below hb
  clear hb e0 e1 e2 e3
  obtain ⟨e0, e1, e2, e3, _, _, _, _⟩ := id hE
  by_cases g : entB r n m y = true
  rotate_left
  · have g : entB r n m y = false := by simpa using g
    rw [g]
    obtain ⟨k0, k1, k2, k3, g0, g1, g2, g3⟩ := id hR
    obtain ⟨y0, y1, y2, y3⟩ := hR.out (.int .i64 0) (.int .i64 0) (.int .i64 0) (.string ⟨#[]⟩)
    have HNO := Lib.hid (show ∀ x, okE x → (lineT x).data.toList ≠ s.data.toList from fun x h1 h2 => by have h3 := HU.out x h1 h2; subst h3; rw [okE, g] at h1; cases h1)
    go_wp2
    refine bodyPost_ret (by simp [results, Tryz.results77, go_sem, y0, y1, y2, y3]; try rfl) rfl ?_
    exact PeR.no HNO.out (by go_grown)
  rw [g]
  have htxt : ∀ W, Calls Tryz.prog 90 #[.agg #[.int .i64 r, .int .i64 n, .int .i64 m, .string y]] W (RV W (.string (lineT ⟨r, n, m, y⟩))) := fun W => lgLine_any ⟨r, n, m, y⟩ g W
  go_wp2_with fail
  refine (htxt _).mono ?_
  rintro e wn ⟨rfl, hb⟩
  replace hB := Below.on' hB hb
  replace hE := hE.below hb
  replace hR := hR.below hb
  clear hb e0 e1 e2 e3
  obtain ⟨e0, e1, e2, e3, _, _, _, _⟩ := id hE
  by_cases hq : (lineT ⟨r, n, m, y⟩).toList = s.toList
  · have HY0 := Lib.hid (show (lineT ⟨r, n, m, y⟩).data.toList = s.data.toList from pe_data hq)
    obtain ⟨k0, k1, k2, k3, g0, g1, g2, g3⟩ := id hR
    obtain ⟨y0, y1, y2, y3⟩ := hR.out (.int .i64 r) (.int .i64 n) (.int .i64 m) (.string y)
    have HG := Lib.hid g
    clear g
    generalize lineT ⟨r, n, m, y⟩ = T at hq ⊢
    go_wp2
    refine bodyPost_ret (by simp [results, Tryz.results77, go_sem, y0, y1, y2, y3]; try rfl) rfl ?_
    exact PeR.yes (x := ⟨r, n, m, y⟩) HG.out HY0.out HU.out (by go_grown)
  · have hq' : ((lineT ⟨r, n, m, y⟩).toList == s.toList) = false := by simpa using hq
    have HN := Lib.hid (show ∀ x, okE x → (lineT x).data.toList ≠ s.data.toList from fun x h1 h2 => by
      have := HU.out x h1 h2
      rw [this] at h2
      exact hq (by rw [Go.ByteArray.toList_eq, Go.ByteArray.toList_eq]; exact h2))
    clear hq g
    generalize lineT ⟨r, n, m, y⟩ = T at hq' ⊢
    obtain ⟨k0, k1, k2, k3, g0, g1, g2, g3⟩ := id hR
    obtain ⟨y0, y1, y2, y3⟩ := hR.out (.int .i64 0) (.int .i64 0) (.int .i64 0) (.string ⟨#[]⟩)
    have HNO := Lib.hid HN.out
    go_wp2
    refine bodyPost_ret (by simp [results, Tryz.results77, go_sem, y0, y1, y2, y3]; try rfl) rfl ?_
    exact PeR.no HNO.out (by go_grown)
/-- What reading numbers returns. -/
def RnsR (w : World) (s : ByteArray) (b : UInt8) (e : Ending) (w' : World) : Prop := ∃ A c l ok, e = .returned (.tuple #[.slice A l.length c, .bool ok]) ∧ Ints w' w.heap.size w'.heap.size A l ∧
  Hid (∀ r n : Nat, r < 1000000 → n < 1000000 → splitS b [] s.data.toList = [Lib.decDigits r, Lib.decDigits n] → ok = true ∧ l = [(r : Int), (n : Int)]) ∧ Below w.heap.size w w'
theorem split_strs (s : ByteArray) (b : UInt8) : (Lib.splitB ⟨#[b]⟩ 0 (Lib.countB s ⟨#[b]⟩) s).map (fun x => x.data.toList) = splitS b [] s.data.toList := by
  have h1 := Lib.splitB_data ⟨#[b]⟩ 0 (Lib.countB s ⟨#[b]⟩) s
  have h2 := splitK_eq b [] (.inl rfl) s.data.toList
  exact h1.trans h2
set_option maxRecDepth 100000 in
set_option maxHeartbeats 4000000 in
theorem readNumbers_any (s : ByteArray) (b : UInt8) (hs : s.size ≤ 1048576) (w : World) (hS : Said w) (hX : MaxL w) : Calls Tryz.prog 99 #[.string s, .string ⟨#[b]⟩] w (RnsR w s b) := by
  obtain ⟨i0, hi0, hz0, hz1, hz2⟩ := info_parts Ints.info
  obtain ⟨mx, hm⟩ := hX
  have hl1 : (Lib.splitB ⟨#[b]⟩ 0 (Lib.countB s ⟨#[b]⟩) s).length = Lib.countB s ⟨#[b]⟩ + 1 := Lib.splitB_all ⟨#[b]⟩ (Nat.le_refl 1) 0 _ s rfl
  have hl2 : Lib.countB s ⟨#[b]⟩ ≤ s.size := Lib.countB_le ⟨#[b]⟩ (Nat.le_refl 1) s.size s (Nat.le_refl _)
  have hsz : ∀ x ∈ Lib.splitB ⟨#[b]⟩ 0 (Lib.countB s ⟨#[b]⟩) s, x.size ≤ 1048576 := by
    have key : ∀ (k : Nat) (t : ByteArray), t.size ≤ 1048576 → ∀ x ∈ Lib.splitB ⟨#[b]⟩ 0 k t, x.size ≤ 1048576 := by
      intro k
      induction k with
      | zero => intro t ht x hx; rw [Lib.splitB_zero] at hx; obtain rfl := List.mem_singleton.1 hx; exact ht
      | succ k ih =>
        intro t ht x hx
        unfold Lib.splitB at hx
        split at hx
        · obtain rfl := List.mem_singleton.1 hx; exact ht
        · rcases List.mem_cons.1 hx with rfl | hx
          · rw [ByteArray.size_extract]; omega
          · exact ih _ (by rw [ByteArray.size_extract]; omega) x hx
    exact key _ s hs
  have HS := Lib.hid (split_strs s b)
  have hc : ∀ W, W.cell? ⟨0, 0, none⟩ = some (.int .i64 mx) → Calls Tryz.prog 83 #[.string s, .string ⟨#[b]⟩] W fun e w' => e = .returned (.slice (some ⟨W.heap.size, 0, none⟩) (Lib.splitB ⟨#[b]⟩ 0 (Lib.countB s ⟨#[b]⟩) s).length (Lib.splitB ⟨#[b]⟩ 0 (Lib.countB s ⟨#[b]⟩) s).length) ∧ w' = W.alloc (.cells ((Lib.splitB ⟨#[b]⟩ 0 (Lib.countB s ⟨#[b]⟩) s).map Value.string).toArray 9) := fun W hW => by
    have := Tryz.strings_Split s ⟨#[b]⟩ mx W (by omega) hW (Nat.le_refl 1)
    rw [hl1]
    exact this
  generalize Lib.splitB ⟨#[b]⟩ 0 (Lib.countB s ⟨#[b]⟩) s = L at hl1 hsz HS hc
  have hLl : L.length ≤ 1048577 := by omega
  clear hl1 hl2
  go_enter Tryz.func99, Tryz.ntmps99
  go_wp2_with fail
  refine (hc _ hm).mono ?_
  rintro e w1 ⟨rfl, rfl⟩
  have hB1 : Below w.heap.size w (w.alloc (.cells (L.map Value.string).toArray 9)) := (Below.refl _ _).alloc (Nat.le_refl _) _
  have hcell : ∀ k x, L[k]? = some x → (w.alloc (.cells (L.map Value.string).toArray 9)).cell? ⟨w.heap.size, k, none⟩ = some (.string x) := fun k x hx => by
    rw [World.cell?_alloc_at _ _ _ _ rfl]
    simp [hx]
  generalize w.alloc (.cells (L.map Value.string).toArray 9) = W1 at hB1 hcell ⊢
  clear hc hm
  have hzz := hB1.size
  go_wp2_with fail
  go_loopw [6, 15] (fun o i wr => ∃ (k : Nat) (A : Option Addr) (c : Nat) (r : List Int), k ≤ L.length ∧ i = .int .i64 k ∧ o = .slice A r.length c ∧ r.length ≤ k ∧ Hid (r.length = k) ∧ Own Ints.cells 1 3 wr W1.heap.size A c r ∧ Hid (∀ q : Nat, q < k → ∀ n : Nat, n < 1000000 → (L.map fun x => x.data.toList)[q]? = some (Lib.decDigits n) → r[q]? = some (n : Int)) ∧ Below W1.heap.size W1 wr) (fun _ i _ => L.length - (intOf i).toNat)
  case atStart => exact ⟨0, none, 0, [], Nat.zero_le _, rfl, rfl, Nat.le_refl _, Lib.hid rfl, Own.nil_, Lib.hid (fun q hq => absurd hq (Nat.not_lt_zero q)), Below.refl _ _⟩
  case round =>
    obtain ⟨k, A, c, r, hk, rfl, rfl, hr0, HK, hO, HR, hB⟩ := hrel
    have hzr := hB.size
    by_cases hlt : k < L.length
    · obtain ⟨x, hx, hxm⟩ := get_lt hlt
      have c0 := keep hB (hcell k x hx)
      have hxs := hsz x hxm
      have HX : Hid ((L.map fun x => x.data.toList)[k]? = some x.data.toList) := Lib.hid (by rw [List.getElem?_map, hx]; rfl)
      have hBw := Below.on' hB1 hB
      clear hxm hx
      go_wp2_with fail
      refine (readNumber_any x hxs _ (hS.below hBw)).mono ?_
      rintro e w2 ⟨v, ok, rfl, _, h2, hb⟩
      have hB2 : Below W1.heap.size W1 w2 := Below.on' (by go_grown) hb
      have hO2 := hO.below hb
      have H2 := Lib.hid h2
      have hz2s := hB2.size
      clear hb hO h2 hB c0
      cases ok with
      | false =>
        have HF : Hid (∀ a n : Nat, a < 1000000 → n < 1000000 → splitS b [] s.data.toList ≠ [Lib.decDigits a, Lib.decDigits n]) := Lib.hid (fun a n ha hn e => by
          have h1 := HX.out
          rw [HS.out, e] at h1
          have bad : ∀ q : Nat, q < 1000000 → x.data.toList = Lib.decDigits q → False := fun q hq e' => by
            have := (H2.out (q : Int) (by rw [e']; exact atoi_dec _ (by omega)) (by rw [e', itoa_nat])).1
            cases this
          match k, h1 with
          | 0, h1 => exact bad a ha (by simpa using h1.symm)
          | 1, h1 => exact bad n hn (by simpa using h1.symm)
          | k + 2, h1 => simp at h1)
        clear HR H2 HX HS hi0 hz0 hz1 hz2
        go_wp2
        go_ret2
        exact ⟨none, 0, [], false, rfl, Sl.nil_, Lib.hid (fun a n ha hn e => absurd e (HF.out a n ha hn)), Below.on' hB1 hB2⟩
      | true =>
        go_wp2_with (at_builtin; refine wpList_append_one _ rfl (.tmp 26) (.tmp 28) _ rfl i0 _ _ Tryz.underlying37 hi0 hz0 hz1 hz2 rfl (by omega) Ints.len Ints.one v _ (hO2.alloc _) rfl rfl (new_cells _ _ _ _ rfl) (by unfold maxLen; omega) (by omega) (by simp; have := hB2.size; omega) ?_; intro A2 c2 wb L2 hL hO3 hb2)
        have hlen : L2.length = r.length + 1 := by rw [hL.out]; simp
        have hBc : Below W1.heap.size W1 wb := Below.trans (by go_grown) hb2
        have HR2 : Hid (∀ q : Nat, q < k + 1 → ∀ n : Nat, n < 1000000 → (L.map fun x => x.data.toList)[q]? = some (Lib.decDigits n) → L2[q]? = some (n : Int)) := Lib.hid (fun q hq n hn e => by
          have hr := HK.out
          rw [hL.out]
          by_cases hqk : q < k
          · rw [List.getElem?_append_left (by omega)]
            exact HR.out q hqk n hn e
          · obtain rfl : q = k := by omega
            have h1 := HX.out.symm.trans e
            have h3 : x.data.toList = Lib.decDigits n := Option.some.inj h1
            have := (H2.out (n : Int) (by rw [h3]; exact atoi_dec _ (by omega)) (by rw [h3, itoa_nat])).2
            rw [List.getElem?_append_right (by omega), hr, Nat.sub_self, this]
            rfl)
        clear hb2 hO2 HR H2 HX hL
        go_roundw
        case rel => exact ⟨k + 1, A2, c2, L2, by omega, by go_num, rfl, by omega, Lib.hid (by have := HK.out; omega), hO3, HR2, hBc⟩
        case measure => simp [intOf]; omega
    · obtain rfl : k = L.length := by omega
      have HF : Hid (∀ a n : Nat, a < 1000000 → n < 1000000 → splitS b [] s.data.toList = [Lib.decDigits a, Lib.decDigits n] → r = [(a : Int), (n : Int)]) := Lib.hid (fun a n ha hn e => by
        have hS0 := HS.out
        have hr := HK.out
        rw [e] at hS0
        have hl : L.length = 2 := by have := congrArg List.length hS0; simpa using this
        have h0 := HR.out 0 (by omega) a ha (by rw [hS0]; rfl)
        have h1 := HR.out 1 (by omega) n hn (by rw [hS0]; rfl)
        rw [hl] at hr
        match r, hr, h0, h1 with
        | [u, v], _, h0, h1 =>
          simp at h0 h1
          rw [h0, h1])
      clear HR HS hi0 hz0 hz1 hz2
      go_wp2
      go_ret2
      exact ⟨A, c, r, true, rfl, (hO.sl Ints.len).mono hzz (Nat.le_refl _) (Nat.le_refl _), Lib.hid (fun a n ha hn e => ⟨rfl, HF.out a n ha hn e⟩), Below.on' hB1 hB⟩
set_option maxRecDepth 100000 in
set_option maxHeartbeats 8000000 in
theorem parseEntry_any (s : ByteArray) (hs : s.size ≤ 1048576) (w : World) (hS : Said w) (hX : MaxL w) : Calls Tryz.prog 74 #[.string s] w (PeR w s) := by
  have hT : TabW w := hS.tab
  have hR := R4.new w (.int .i64 0) (.int .i64 0) (.int .i64 0) (.string ⟨#[]⟩) 33 _ rfl
  have hB : Below w.heap.size w (w.alloc (.cells #[.int .i64 0, .int .i64 0, .int .i64 0, .string ⟨#[]⟩] 33)) := (Below.refl _ _).alloc (Nat.le_refl _) _
  go_enter Tryz.func74, Tryz.ntmps74
  go_wp2_with fail
  refine (cut_any s 32 hs _ (hX.below hB)).mono ?_
  rintro e w1 ⟨x, y, o1, rfl, ⟨hxs, hys⟩, H1, hb⟩
  replace hR := hR.below hb
  replace hB := Below.on' hB hb
  clear hb
  go_wp2_with fail
  refine (cut_any x 64 (by omega) _ (hX.below hB)).mono ?_
  rintro e w2 ⟨f, mi, o2, rfl, ⟨hfs, hms⟩, H2, hb⟩
  replace hR := hR.below hb
  replace hB := Below.on' hB hb
  clear hb
  go_wp2_with fail
  refine (readNumbers_any f 46 (by omega) _ (hS.below hB) (hX.below hB)).mono ?_
  rintro e w3 ⟨A, c, l, ok, rfl, hI, H3, hb⟩
  replace hR := hR.below hb
  replace hB := Below.on' hB hb
  clear hb
  go_wp2_with fail
  refine (readNumber_any mi (by omega) _ (hS.below hB)).mono ?_
  rintro e w4 ⟨v, b, rfl, _, h2, hb⟩
  replace hR := hR.below hb
  replace hB := Below.on' hB hb
  replace hI := (hI.below hb).all
  clear hb
  have HA : Hid (∀ x', okE x' → (lineT x').data.toList = s.data.toList → (ok = true ∧ l = [x'.r, x'.n]) ∧ (b = true ∧ v = x'.m) ∧ x'.t = y) := Lib.hid (fun x' h1 h3 => by
    rw [lineT_data] at h3
    obtain ⟨q1, q2⟩ := H1.out _ _ h3.symm (line_nosp x')
    obtain ⟨q3, q4⟩ := H2.out _ _ q1 (line_noat x')
    obtain ⟨b1, b2, b3, _⟩ := entB_in h1
    have k1 := H3.out x'.r.toNat x'.n.toNat (by omega) (by omega) (by rw [q3, splitS_cut [] _ (line_nodot _), splitS_none [] (line_nodot _), List.append_nil])
    have k2 := h2 ((x'.m.toNat : Nat) : Int) (by rw [q4]; exact atoi_dec _ (by omega)) (by rw [q4, itoa_nat])
    refine ⟨⟨k1.1, ?_⟩, ⟨k2.1, ?_⟩, (pe_inj q2).symm⟩
    · rw [k1.2, show ((x'.r.toNat : Nat) : Int) = x'.r by omega, show ((x'.n.toNat : Nat) : Int) = x'.n by omega]
    · rw [k2.2]; omega)
  have hxt : y.size ≤ maxLen := big (by omega)
  have hwl := hR.lt
  clear H1 H2 H3 h2 hxs hys hfs hms
  cases ok with
  | false =>
    obtain ⟨k0, k1, k2, k3, g0, g1, g2, g3⟩ := id hR
    obtain ⟨y0, y1, y2, y3⟩ := hR.out (.int .i64 0) (.int .i64 0) (.int .i64 0) (.string ⟨#[]⟩)
    have HNO := Lib.hid (show ∀ x, okE x → (lineT x).data.toList ≠ s.data.toList from fun x h1 h2 => by have := (HA.out x h1 h2).1.1; cases this)
    go_wp2
    refine bodyPost_ret (by simp [results, Tryz.results74, go_sem, y0, y1, y2, y3]; try rfl) rfl ?_
    exact PeR.no HNO.out (by go_grown)
  | true =>
  cases b with
  | false =>
    obtain ⟨k0, k1, k2, k3, g0, g1, g2, g3⟩ := id hR
    obtain ⟨y0, y1, y2, y3⟩ := hR.out (.int .i64 0) (.int .i64 0) (.int .i64 0) (.string ⟨#[]⟩)
    have HNO := Lib.hid (show ∀ x, okE x → (lineT x).data.toList ≠ s.data.toList from fun x h1 h2 => by have := (HA.out x h1 h2).2.1.1; cases this)
    go_wp2
    refine bodyPost_ret (by simp [results, Tryz.results74, go_sem, y0, y1, y2, y3]; try rfl) rfl ?_
    exact PeR.no HNO.out (by go_grown)
  | true =>
  by_cases hl2 : l.length = 2
  rotate_left
  · have hl2' : ((l.length : Int) != 2) = true := by simp; omega
    obtain ⟨k0, k1, k2, k3, g0, g1, g2, g3⟩ := id hR
    obtain ⟨y0, y1, y2, y3⟩ := hR.out (.int .i64 0) (.int .i64 0) (.int .i64 0) (.string ⟨#[]⟩)
    have HNO := Lib.hid (show ∀ x, okE x → (lineT x).data.toList ≠ s.data.toList from fun x h1 h2 => hl2 (by rw [(HA.out x h1 h2).1.2]; rfl))
    go_wp2
    refine bodyPost_ret (by simp [results, Tryz.results74, go_sem, y0, y1, y2, y3]; try rfl) rfl ?_
    exact PeR.no HNO.out (by go_grown)
  obtain ⟨r, n, rfl⟩ : ∃ r n, l = [r, n] := by
    match l, hl2 with
    | [a, b], _ => exact ⟨a, b, rfl⟩
  have HU : Hid (∀ x', okE x' → (lineT x').data.toList = s.data.toList → x' = ⟨r, n, v, y⟩) := Lib.hid (fun x' h1 h2 => by
    obtain ⟨⟨_, k1⟩, ⟨_, k2⟩, k3⟩ := HA.out x' h1 h2
    injection k1 with k1 k4
    injection k4 with k4
    obtain ⟨er, en, em, et⟩ := x'
    simp only at k1 k2 k3 k4
    rw [k1, k2, k3, k4])
  obtain ⟨ab, ao, rfl, _, _, _, a0, _⟩ := Ints.at1 hI (i := 0) rfl
  obtain ⟨_, _, e, _, _, _, a1, _⟩ := Ints.at1 hI (i := 1) rfl
  cases e
  rw [Nat.add_zero] at a0
  clear hI HA hl2
  go_upto_region 7 with fail
  refine wp_region_held_drew (S := fun w' => Below w4.drew.heap.size w4.drew w') (by kernel_rfl) (Below.refl _ _) (fun _ => ?_)
  have hB0 : Below w.heap.size w w4.drew := hB.drew
  have hR0 : R4 w.heap.size (.int .i64 0) (.int .i64 0) (.int .i64 0) (.string ⟨#[]⟩) w4.drew := hR.below ((Below.refl _ _).drew)
  have hcls : ∀ w', Below w4.drew.heap.size w4.drew w' → w'.cell? ⟨ab, ao, none⟩ = some (.int .i64 r) ∧ w'.cell? ⟨ab, ao + 1, none⟩ = some (.int .i64 n) := fun w' h => ⟨keep h a0, keep h a1⟩
  clear hR hB a0 a1
  generalize w4.drew = W0 at hB0 hR0 hcls ⊢
  change wpAnyH _ _ _ _ _ 11 #[false, false, false, false, false, false, false, false, false, false, false] _ _
  refine wpAnyH_takeL (i := 0) (v := .slice (some ⟨ab, ao, none⟩) 2 c) rfl (by kernel_rfl) (by kernel_rfl) (by kernel_rfl) (fun _ _ _ h => h) (Or.inl ⟨by rfl, fun w' hw' => by obtain ⟨y0, y1⟩ := hcls w' hw'; go_simp⟩) (Below.refl _ _) ?_
  simp only [Act.put, List.setIfInBounds_toArray, List.set_cons_zero, List.set_cons_succ]
  refine wpAnyH_takeL (i := 1) (v := .pointer (some ⟨ab, ao, none⟩)) rfl (by kernel_rfl) (by kernel_rfl) (by kernel_rfl) (fun _ _ _ h => h) (Or.inl ⟨by rfl, fun w' hw' => by obtain ⟨y0, y1⟩ := hcls w' hw'; go_simp⟩) (Below.refl _ _) ?_
  simp only [Act.put, List.setIfInBounds_toArray, List.set_cons_zero, List.set_cons_succ]
  refine wpAnyH_takeL (i := 2) (v := .int .i64 r) rfl (by kernel_rfl) (by kernel_rfl) (by kernel_rfl) (fun _ _ _ h => h) (Or.inl ⟨by rfl, fun w' hw' => by obtain ⟨y0, y1⟩ := hcls w' hw'; go_simp⟩) (Below.refl _ _) ?_
  simp only [Act.put, List.setIfInBounds_toArray, List.set_cons_zero, List.set_cons_succ]
  refine wpAnyH_takeL (i := 3) (v := .slice (some ⟨ab, ao, none⟩) 2 c) rfl (by kernel_rfl) (by kernel_rfl) (by kernel_rfl) (fun _ _ _ h => h) (Or.inl ⟨by rfl, fun w' hw' => by obtain ⟨y0, y1⟩ := hcls w' hw'; go_simp⟩) (Below.refl _ _) ?_
  simp only [Act.put, List.setIfInBounds_toArray, List.set_cons_zero, List.set_cons_succ]
  refine wpAnyH_takeL (i := 4) (v := .pointer (some ⟨ab, ao + 1, none⟩)) rfl (by kernel_rfl) (by kernel_rfl) (by kernel_rfl) (fun _ _ _ h => h) (Or.inl ⟨by rfl, fun w' hw' => by obtain ⟨y0, y1⟩ := hcls w' hw'; go_simp⟩) (Below.refl _ _) ?_
  simp only [Act.put, List.setIfInBounds_toArray, List.set_cons_zero, List.set_cons_succ]
  refine wpAnyH_takeL (i := 5) (v := .int .i64 n) rfl (by kernel_rfl) (by kernel_rfl) (by kernel_rfl) (fun _ _ _ h => h) (Or.inl ⟨by rfl, fun w' hw' => by obtain ⟨y0, y1⟩ := hcls w' hw'; go_simp⟩) (Below.refl _ _) ?_
  simp only [Act.put, List.setIfInBounds_toArray, List.set_cons_zero, List.set_cons_succ]
  refine wpAnyH_takeL (i := 6) (v := .int .i64 v) rfl (by kernel_rfl) (by kernel_rfl) (by kernel_rfl) (fun _ _ _ h => h) (Or.inl ⟨by rfl, fun w' hw' => by obtain ⟨y0, y1⟩ := hcls w' hw'; go_simp⟩) (Below.refl _ _) ?_
  simp only [Act.put, List.setIfInBounds_toArray, List.set_cons_zero, List.set_cons_succ]
  refine wpAnyH_takeL (i := 7) (v := .string y) rfl (by kernel_rfl) (by kernel_rfl) (by kernel_rfl) (fun _ _ _ h => h) (Or.inl ⟨by rfl, fun w' hw' => by obtain ⟨y0, y1⟩ := hcls w' hw'; go_simp⟩) (Below.refl _ _) ?_
  simp only [Act.put, List.setIfInBounds_toArray, List.set_cons_zero, List.set_cons_succ]
  refine wpAnyH_takeL (i := 8) (v := .agg #[.int .i64 r, .int .i64 n, .int .i64 v, .string y]) rfl (by kernel_rfl) (by kernel_rfl) (by kernel_rfl) (fun _ _ _ h => h) (Or.inl ⟨by rfl, fun w' hw' => by obtain ⟨y0, y1⟩ := hcls w' hw'; go_simp⟩) (Below.refl _ _) ?_
  simp only [Act.put, List.setIfInBounds_toArray, List.set_cons_zero, List.set_cons_succ]
  refine wpAnyH_ready (rs := [9]) (by kernel_rfl) (by simp) ?_
  refine AllReadyH.consL rfl (fun K hK => ?_) AllReadyH.nil
  go_simp
  refine hK.out _ _ ((Below.refl _ _).alloc (Nat.le_refl _) _) (fun _ => ?_)
  clear hK K
  simp only [List.setIfInBounds_toArray, List.set_cons_zero, List.set_cons_succ]
  have hE0 := R4.new W0 (.int .i64 0) (.int .i64 0) (.int .i64 0) (.string ⟨#[]⟩) 33 _ rfl
  obtain ⟨e0, e1, e2, e3, f0, f1, f2, f3⟩ := id hE0
  refine wpAnyH_ready (rs := [10]) (by kernel_rfl) (by simp) ?_
  refine AllReadyH.consL rfl (fun K hK => ?_) AllReadyH.nil
  go_simp
  refine hK.out _ _ ((Below.refl _ _).alloc (Nat.le_refl _) _) (fun _ => ?_)
  clear hK K e0 e1 e2 e3 f0 f1 f2 f3 hE0
  simp only [List.setIfInBounds_toArray, List.set_cons_zero, List.set_cons_succ]
  have hE := R4.new W0 (.int .i64 r) (.int .i64 n) (.int .i64 v) (.string y) 33 _ rfl
  have hR := hR0.alloc (.cells #[.int .i64 r, .int .i64 n, .int .i64 v, .string y] 33)
  have hB : Below w.heap.size w (W0.alloc (.cells #[.int .i64 r, .int .i64 n, .int .i64 v, .string y] 33)) := hB0.alloc hB0.size _
  generalize W0.alloc (.cells #[.int .i64 r, .int .i64 n, .int .i64 v, .string y] 33) = VF at hE hR hB ⊢
  clear hcls
  refine wpAnyH_done (by kernel_rfl) ?_ _
  have hone : ∀ W, Calls Tryz.prog 87 #[.agg #[.int .i64 r, .int .i64 n, .int .i64 v, .string y]] W (RV W (.bool (entB r n v y))) := fun W => isEntry_any _ _ _ _ hxt W
  obtain ⟨e0, e1, e2, e3, _, _, _, _⟩ := id hE
  go_wp2_with fail
  refine (hone _).mono ?_
  rintro e wm ⟨rfl, hb⟩
  replace hB := Below.on' hB hb
  replace hE := hE.below hb
  replace hR := hR.below hb
  clear hb e0 e1 e2 e3
  obtain ⟨e0, e1, e2, e3, _, _, _, _⟩ := id hE
  by_cases g : entB r n v y = true
  rotate_left
  · have g : entB r n v y = false := by simpa using g
    rw [g]
    obtain ⟨k0, k1, k2, k3, g0, g1, g2, g3⟩ := id hR
    obtain ⟨y0, y1, y2, y3⟩ := hR.out (.int .i64 0) (.int .i64 0) (.int .i64 0) (.string ⟨#[]⟩)
    have HNO := Lib.hid (show ∀ x, okE x → (lineT x).data.toList ≠ s.data.toList from fun x h1 h2 => by have h3 := HU.out x h1 h2; subst h3; rw [okE, g] at h1; cases h1)
    go_wp2
    refine bodyPost_ret (by simp [results, Tryz.results74, go_sem, y0, y1, y2, y3]; try rfl) rfl ?_
    exact PeR.no HNO.out (by go_grown)
  rw [g]
  have htxt : ∀ W, Below w.heap.size w W → Calls Tryz.prog 88 #[.agg #[.int .i64 r, .int .i64 n, .int .i64 v, .string y]] W (RV W (.string (lineT ⟨r, n, v, y⟩))) := fun W hW => entryText_any ⟨r, n, v, y⟩ g W (hT.below hW)
  go_wp2_with fail
  refine (htxt _ hB).mono ?_
  rintro e wn ⟨rfl, hb⟩
  replace hB := Below.on' hB hb
  replace hE := hE.below hb
  replace hR := hR.below hb
  clear hb e0 e1 e2 e3
  obtain ⟨e0, e1, e2, e3, _, _, _, _⟩ := id hE
  by_cases hq : (lineT ⟨r, n, v, y⟩).toList = s.toList
  · have HY0 := Lib.hid (show (lineT ⟨r, n, v, y⟩).data.toList = s.data.toList from pe_data hq)
    obtain ⟨k0, k1, k2, k3, g0, g1, g2, g3⟩ := id hR
    obtain ⟨y0, y1, y2, y3⟩ := hR.out (.int .i64 r) (.int .i64 n) (.int .i64 v) (.string y)
    have HG := Lib.hid g
    clear g
    generalize lineT ⟨r, n, v, y⟩ = T at hq ⊢
    go_wp2
    refine bodyPost_ret (by simp [results, Tryz.results74, go_sem, y0, y1, y2, y3]; try rfl) rfl ?_
    exact PeR.yes (x := ⟨r, n, v, y⟩) HG.out HY0.out HU.out (by go_grown)
  · have hq' : ((lineT ⟨r, n, v, y⟩).toList == s.toList) = false := by simpa using hq
    have HN := Lib.hid (show ∀ x, okE x → (lineT x).data.toList ≠ s.data.toList from fun x h1 h2 => by
      have := HU.out x h1 h2
      rw [this] at h2
      exact hq (by rw [Go.ByteArray.toList_eq, Go.ByteArray.toList_eq]; exact h2))
    clear hq g
    generalize lineT ⟨r, n, v, y⟩ = T at hq' ⊢
    obtain ⟨k0, k1, k2, k3, g0, g1, g2, g3⟩ := id hR
    obtain ⟨y0, y1, y2, y3⟩ := hR.out (.int .i64 0) (.int .i64 0) (.int .i64 0) (.string ⟨#[]⟩)
    have HNO := Lib.hid HN.out
    go_wp2
    refine bodyPost_ret (by simp [results, Tryz.results74, go_sem, y0, y1, y2, y3]; try rfl) rfl ?_
    exact PeR.no HNO.out (by go_grown)
theorem ParseEntry_spec (s : ByteArray) (hs : s.size ≤ 1048576) (w : World) : Calls Tryz.prog 41 #[.string s] w (PeR w s) := by
  have hR := R4.new w (.int .i64 0) (.int .i64 0) (.int .i64 0) (.string ⟨#[]⟩) 33 _ rfl
  have hB : Below w.heap.size w (w.alloc (.cells #[.int .i64 0, .int .i64 0, .int .i64 0, .string ⟨#[]⟩] 33)) := (Below.refl _ _).alloc (Nat.le_refl _) _
  go_enter Tryz.func41, Tryz.ntmps41
  go_wp2_with fail
  refine (lgParse_any s hs _).mono ?_
  rintro e w1 ⟨⟨er, en, em, et⟩, b, rfl, HR, hb⟩
  dsimp only
  replace hR := hR.below hb
  replace hB := Below.on' hB hb
  clear hb
  have hwl := hR.lt
  obtain ⟨k0, k1, k2, k3, g0, g1, g2, g3⟩ := id hR
  obtain ⟨y0, y1, y2, y3⟩ := hR.out (.int .i64 er) (.int .i64 en) (.int .i64 em) (.string et)
  go_wp2
  refine bodyPost_ret (by simp [results, Tryz.results41, go_sem, y0, y1, y2, y3]; try rfl) rfl ?_
  exact ⟨⟨er, en, em, et⟩, b, rfl, HR, by go_grown⟩
theorem ParseEntry_impl (s : ByteArray) (hs : s.size ≤ 1048576) (w : World) (hS : Said w) (hX : MaxL w) : Calls Tryz.prog 40 #[.string s] w (PeR w s) := by
  have hR := R4.new w (.int .i64 0) (.int .i64 0) (.int .i64 0) (.string ⟨#[]⟩) 33 _ rfl
  have hB : Below w.heap.size w (w.alloc (.cells #[.int .i64 0, .int .i64 0, .int .i64 0, .string ⟨#[]⟩] 33)) := (Below.refl _ _).alloc (Nat.le_refl _) _
  go_enter Tryz.func40, Tryz.ntmps40
  go_wp2_with fail
  refine (parseEntry_any s hs _ (hS.below hB) (hX.below hB)).mono ?_
  rintro e w1 ⟨⟨er, en, em, et⟩, b, rfl, HR, hb⟩
  dsimp only
  replace hR := hR.below hb
  replace hB := Below.on' hB hb
  clear hb
  have hwl := hR.lt
  obtain ⟨k0, k1, k2, k3, g0, g1, g2, g3⟩ := id hR
  obtain ⟨y0, y1, y2, y3⟩ := hR.out (.int .i64 er) (.int .i64 en) (.int .i64 em) (.string et)
  go_wp2
  refine bodyPost_ret (by simp [results, Tryz.results40, go_sem, y0, y1, y2, y3]; try rfl) rfl ?_
  exact ⟨⟨er, en, em, et⟩, b, rfl, HR, by go_grown⟩
end Go.Proofs.YtmdmcjhodhphgaaGreatDoor

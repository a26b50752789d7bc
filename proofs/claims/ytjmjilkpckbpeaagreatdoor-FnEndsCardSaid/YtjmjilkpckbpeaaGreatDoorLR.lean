/- Several texts of this seat, one behind the other. The tables and sentinels that strconv's functions read, as a row that lists them hands them over; the library's own variable that strings' searches read. No conditions. Reading a number: strconv.Atoi at every string, and the program's readNumber. Conditions: texts of at most 2^20; the two sentinels and the table of powers lie where the row lists them. From a row's listed variables to what the walks ask of them. No conditions. The body of a state read, by the program and by the reference. Conditions: texts of at most 2^20; the listed variables as Said has them. The body of a state read by the program. Conditions: texts of at most 2^20; the listed variables as Said has them. Ends: which states the messages tell, in plain Lean: no program walked. No conditions. -/
import Derived.Test.YtjmjilkpckbpeaaGreatDoorRowD
import Derived.Test.YtjmjilkpckbpeaaGreatDoorShAll
import Derived.Test.YtjmjilkpckbpeaaGreatDoorLA
import Derived.Test.YtjmjilkpckbpeaaGreatDoorLF
import Derived.Lib.LaidTab
import Derived.Lib.ItoaNum
import Derived.Shelf.Vars
import Derived.Stop.LaidErr
import Derived.Lib.AppendIntMem
namespace Go.Proofs.YtjmjilkpckbpeaaGreatDoor
open Go.ChangeShapes Go.WideShapes Go.ChangeAt Go.RowKit Go.Joins

theorem gPow : Tryz.prog.globalNamed "internal/strconv.uint64pow10" = some 3 := by kernel_rfl
theorem tPow : (Tryz.prog.globals[3]?).map (·.type) = some 180 := by kernel_rfl
theorem tab_at {W : World} {r : List (String × DataW Unit)} (h : laidMet Tryz.prog (("internal/strconv.uint64pow10", Rows.laid_internal_strconv_uint64pow10) :: r) W) : Lib.TabIs Tryz.prog W "internal/strconv.uint64pow10" .u64 Lib.pow10Tab := by
  obtain ⟨ps, ⟨g2, t2, cs2, f2, p2, q2, hg2, ht2, hv2, hd2, _, _⟩, _, _⟩ := h
  obtain rfl := Option.some.inj (gPow.symm.trans hg2)
  obtain rfl := Option.some.inj (tPow.symm.trans ht2)
  have := Lib.cells_of_tab (k := .u64) (zs := Lib.pow10Tab) Tryz.underlying180 Tryz.underlying84 (by kernel_rfl) (by kernel_rfl) hd2
  unfold Lib.TabIs
  rw [hv2, ← this]
/-- The variable that strings' searches read holds some number. -/
def MaxL (w : World) : Prop := ∃ m, w.cell? ⟨0, 0, none⟩ = some (.int .i64 m)
theorem MaxL.below {w w' : World} (h : MaxL w) (hb : Below w.heap.size w w') : MaxL w' := by
  obtain ⟨m, h⟩ := h
  exact ⟨m, (hb.cell (World.block_lt_of_cell? _ _ h)).trans h⟩
theorem maxL_of {W : World} (h : W.ShapedOpen Tryz.prog) : MaxL W :=
  cell_of_shapedOpen_int (t := 3) (zero := #[.int .i64 0]) h (by decide +kernel) (by kernel_rfl) rfl (by kernel_rfl) (by kernel_rfl) Tryz.underlying3
end Go.Proofs.YtjmjilkpckbpeaaGreatDoor
namespace Go.Proofs.YtjmjilkpckbpeaaGreatDoor
open Go.RowKit

/-- What the listed variables give: the two sentinels hold interface values, the table of powers holds the powers. -/
structure Said (w : World) : Prop where
  s0 : ∃ t p, w.cell? ⟨1, 0, none⟩ = some (.iface t p)
  s1 : ∃ t p, w.cell? ⟨2, 0, none⟩ = some (.iface t p)
  tab : Lib.TabIs Tryz.prog w "internal/strconv.uint64pow10" .u64 Lib.pow10Tab
theorem Said.below {w w' : World} (h : Said w) (hb : Below w.heap.size w w') : Said w' := by
  obtain ⟨t, p, h0⟩ := h.s0
  obtain ⟨t', p', h1⟩ := h.s1
  exact ⟨⟨t, p, keep hb h0⟩, ⟨t', p', keep hb h1⟩, Joins.tab_stays gPow h.tab hb (Nat.le_refl _)⟩
theorem atoi_no (s : ByteArray) (hlim : s.size ≤ 1048576) (w : World) (hS : Said w) (h1 : ∀ v, Lib.atoiAll s.data.toList ≠ .ok v) :
    Calls Tryz.prog 141 #[.string s] w fun e w' => ∃ v p, e = .returned (.tuple #[.int .i64 v, .iface 161 p]) ∧ Below w.heap.size w w' := by
  obtain ⟨t, p, c0⟩ := hS.s0
  obtain ⟨t', p', c1⟩ := hS.s1
  cases h : Lib.atoiAll s.data.toList with
  | ok v => exact absurd h (h1 v)
  | range =>
    refine (Tryz.strconv_Atoi_range s (by omega) h _ w c1 (.inr ⟨_, _, rfl⟩)).mono ?_
    rintro e w' ⟨N, rfl, _, _, hb⟩
    exact ⟨_, _, rfl, hb⟩
  | _ =>
    refine (Any.strconv_Atoi_syntax Tryz.laysC172 s (by omega) h _ w c0 (.inr ⟨_, _, rfl⟩)).mono ?_
    rintro e w' ⟨N, rfl, _, _, hb⟩
    exact ⟨_, _, rfl, hb⟩
theorem readNumber_any (s : ByteArray) (hlim : s.size ≤ 1048576) (w : World) (hS : Said w) :
    Calls Tryz.prog 92 #[.string s] w fun e w' => ∃ v b, e = .returned (.tuple #[.int .i64 v, .bool b]) ∧ (b = true → Lib.atoiAll s.data.toList = .ok v ∧ s.data.toList = Lib.itoa v) ∧ (∀ n, Lib.atoiAll s.data.toList = .ok n → s.data.toList = Lib.itoa n → b = true ∧ v = n) ∧ Below w.heap.size w w' := by
  by_cases h1 : ∀ v, Lib.atoiAll s.data.toList ≠ .ok v
  · go_enter Tryz.func92, Tryz.ntmps92
    go_wp2_with fail
    refine (atoi_no s hlim _ hS h1).mono ?_
    rintro e w1 ⟨v, p, rfl, hb⟩
    replace h1 := Lib.hid h1
    go_wp2
    go_ret2
    exact ⟨v, false, rfl, fun h => (by cases h), fun n hn _ => absurd hn (h1.out n), hb⟩
  · obtain ⟨v, hv⟩ : ∃ v, Lib.atoiAll s.data.toList = .ok v := by
      cases h : Lib.atoiAll s.data.toList with
      | ok v => exact ⟨v, rfl⟩
      | _ => exact absurd (fun v h' => by rw [h] at h'; cases h') h1
    obtain ⟨bd0, bd1⟩ := Lib.atoiAll_bounds hv
    replace hv := Lib.hid hv
    clear h1
    go_enter Tryz.func92, Tryz.ntmps92
    go_wp2_with fail
    refine (Tryz.strconv_Atoi_ok s (by omega) v hv.out _).mono ?_
    rintro e w1 ⟨rfl, hw⟩
    have hb : Below w.heap.size w w1 := by
      rcases hw with rfl | ⟨t, rfl⟩
      · exact Below.refl _ _
      · exact Lib.bytesWorld_below _ _ _
    have hS1 := hS.below hb
    clear hw
    go_wp2_with fail
    refine (Tryz.strconv_Itoa v bd0 bd1 _ hS1.tab).mono ?_
    rintro e w2 ⟨rfl, k, os, hw⟩
    have hb2 : Below w1.heap.size w1 w2 := by rw [hw]; exact Lib.below_grow _ _ (Nat.le_refl _) _ _
    clear hw
    have hB2 := Below.on' hb hb2
    obtain ⟨T, hT⟩ : ∃ T : ByteArray, Hid (T = ⟨(Lib.itoa v).toArray⟩) := ⟨_, Lib.hid rfl⟩
    rw [← hT.out]
    have hTl : Hid (T.data.toList = Lib.itoa v) := Lib.hid (by rw [hT.out])
    by_cases hq : T.toList = s.toList
    · have hE : Hid (s.data.toList = Lib.itoa v) := Lib.hid (by rw [← hTl.out, ← Go.ByteArray.toList_eq, ← Go.ByteArray.toList_eq, hq])
      go_wp2
      go_ret2
      exact ⟨v, true, rfl, fun _ => ⟨hv.out, hE.out⟩, fun n hn _ => ⟨rfl, by have := hv.out.symm.trans hn; injection this⟩, hB2⟩
    · have hE : Hid (s.data.toList ≠ Lib.itoa v) := Lib.hid (fun h => hq (by rw [Go.ByteArray.toList_eq, Go.ByteArray.toList_eq, hTl.out, h]))
      have hq' : (T.toList == s.toList) = false := by simpa using hq
      go_wp2
      go_ret2
      exact ⟨v, false, rfl, fun h => (by cases h), fun n hn hs => absurd (by have := hv.out.symm.trans hn; injection this with this; rw [this]; exact hs) hE.out, hB2⟩
end Go.Proofs.YtjmjilkpckbpeaaGreatDoor
namespace Go.Proofs.YtjmjilkpckbpeaaGreatDoor
open Go.ChangeShapes Go.WideShapes Go.ChangeAt Go.RowKit Go.Joins

theorem gES : Tryz.prog.globalNamed "strconv.ErrSyntax" = some 1 := by kernel_rfl
theorem gEST : (Tryz.prog.globals[1]?).map (·.type) = some 141 := by kernel_rfl
theorem gER : Tryz.prog.globalNamed "strconv.ErrRange" = some 2 := by kernel_rfl
theorem gERT : (Tryz.prog.globals[2]?).map (·.type) = some 141 := by kernel_rfl
theorem cEs : Tryz.prog.cellsOf 187 = 1 := by kernel_rfl
theorem cStr : Tryz.prog.cellsOf 9 = 1 := by kernel_rfl
theorem starE : "*" ++ "errors.errorString" = "*errors.errorString" := by decide
theorem rowEs (u : TypeId) (h : Tryz.prog.typeName? 3 u = some "*errors.errorString") : u = 185 :=
  typeName_ptr_named (nm := "errors.errorString") (by rw [starE]; kernel_rfl) (by kernel_rfl) (by decide) u (by rw [starE]; exact h)
theorem said_at {W : World} {r r' : List (String × DataW Unit)} (ht : laidMet Tryz.prog (("internal/strconv.uint64pow10", Rows.laid_internal_strconv_uint64pow10) :: r') W)
    (h : laidMet Tryz.prog (("strconv.ErrRange", Rows.laid_strconv_ErrRange) :: ("strconv.ErrSyntax", Rows.laid_strconv_ErrSyntax) :: r) W) : Said W := by
  obtain ⟨a1, s1, hv1, -, -, -⟩ := laid_sentinel h gER gERT Tryz.underlying141 rowEs Tryz.underlying185 Tryz.underlying187 rfl rfl Tryz.underlying9 cEs cStr
  obtain ⟨a0, s0, hv0, -, -, -⟩ := laid_sentinel h.tail gES gEST Tryz.underlying141 rowEs Tryz.underlying185 Tryz.underlying187 rfl rfl Tryz.underlying9 cEs cStr
  exact ⟨⟨_, _, by have := World.var?_cell gES hv0 0; simpa using this⟩, ⟨_, _, by have := World.var?_cell gER hv1 0; simpa using this⟩, tab_at ht⟩
end Go.Proofs.YtjmjilkpckbpeaaGreatDoor
namespace Go.Proofs.YtjmjilkpckbpeaaGreatDoor
open Go.RowKit

/-- v is the state that s spells, or -1. -/
def Spells (s : ByteArray) (v : Int) : Prop := (v = -1 ∧ ∀ n : Int, 0 ≤ n ∧ n ≤ 5 → s.toList ≠ (stT n).toList) ∨ ((0 ≤ v ∧ v ≤ 5) ∧ s.toList = (stT v).toList)
theorem six {n : Int} (h : 0 ≤ n ∧ n ≤ 5) : n = 0 ∨ n = 1 ∨ n = 2 ∨ n = 3 ∨ n = 4 ∨ n = 5 := by omega
theorem stT_inj {n m : Int} (hn : 0 ≤ n ∧ n ≤ 5) (hm : 0 ≤ m ∧ m ≤ 5) (h : (stT n).toList = (stT m).toList) : n = m := by
  rw [Go.ByteArray.toList_eq, Go.ByteArray.toList_eq] at h
  rcases six hn with rfl | rfl | rfl | rfl | rfl | rfl <;> rcases six hm with rfl | rfl | rfl | rfl | rfl | rfl <;> first | rfl | (exfalso; revert h; decide +kernel)
theorem Spells.uniq {s : ByteArray} {v v' : Int} (h : Spells s v) (h' : Spells s v') : v = v' := by
  rcases h with ⟨rfl, h⟩ | ⟨hv, h⟩ <;> rcases h' with ⟨rfl, h'⟩ | ⟨hv', h'⟩
  · rfl
  · exact absurd h' (h _ hv')
  · exact absurd h (h' _ hv)
  · exact stT_inj hv hv' (h.symm.trans h')
theorem stParse_any (s : ByteArray) (w : World) : Calls Tryz.prog 127 #[.string s] w fun e w' => ∃ v, e = .returned (.int .i64 v) ∧ Hid (Spells s v) ∧ Below w.heap.size w w' := by
  go_enter Tryz.func127, Tryz.ntmps127
  go_wp2_with fail
  go_loopw [3] (fun i wr => ∃ k : Nat, k ≤ 6 ∧ i = .int .i64 k ∧ Hid (∀ n : Int, 0 ≤ n ∧ n < k → s.toList ≠ (stT n).toList) ∧ Below w.heap.size w wr) (fun i _ => 6 - (intOf i).toNat)
  case atStart => exact ⟨0, Nat.zero_le _, rfl, Lib.hid (fun n hn => by omega), Below.refl _ _⟩
  case round =>
    obtain ⟨k, hk, rfl, HX, hB⟩ := hrel
    by_cases hlt : k ≤ 5
    · have hlt' : (k : Int) ≤ 5 := by omega
      go_wp2_with fail
      refine (stBody_a k (by omega) (by omega) _).mono ?_
      rintro e w1 ⟨rfl, hb⟩
      have hB1 := Below.on' hB hb
      by_cases hq : s.toList = (stT k).toList
      · have HS : Hid (Spells s k) := Lib.hid (.inr ⟨⟨by omega, hlt'⟩, hq⟩)
        go_wp2
        go_ret
        exact ⟨k, rfl, HS, hB1⟩
      · have HX' : Hid (∀ n : Int, 0 ≤ n ∧ n < ((k + 1 : Nat) : Int) → s.toList ≠ (stT n).toList) := Lib.hid (fun n hn => by
          by_cases h : n < k
          · exact HX.out n ⟨hn.1, h⟩
          · obtain rfl : n = k := by omega
            exact hq)
        have hq' : (s.toList == (stT k).toList) = false := by simpa using hq
        clear hq HX
        go_wp2
        go_roundw
        case rel => exact ⟨k + 1, by omega, by go_num, HX', hB1⟩
        case measure => simp [intOf]; omega
    · obtain rfl : k = 6 := by omega
      have HS : Hid (Spells s (-1)) := Lib.hid (.inl ⟨rfl, fun n hn => HX.out n ⟨hn.1, by omega⟩⟩)
      clear HX
      go_wp2
      go_ret
      exact ⟨-1, rfl, HS, hB⟩
/-- What reading a state's body returns. -/
def PsR (w : World) (s : ByteArray) (e : Ending) (w' : World) : Prop := ∃ v b, e = .returned (.tuple #[.int .i64 v, .bool b]) ∧ Hid ((b = false ∧ v = 0 ∧ Spells s (-1)) ∨ (b = true ∧ 0 ≤ v ∧ Spells s v)) ∧ Below w.heap.size w w'
end Go.Proofs.YtjmjilkpckbpeaaGreatDoor
namespace Go.Proofs.YtjmjilkpckbpeaaGreatDoor
open Go.RowKit

def preS : ByteArray := ⟨#[115, 116, 97, 116, 101, 32]⟩
theorem stT_data (n : Int) : (stT n).data.toList = preS.data.toList ++ (digT n).data.toList := by unfold stT preS; simp [ByteArray.data_append]
theorem dig_ok {n : Int} (h : 0 ≤ n ∧ n ≤ 5) : Lib.atoiAll (digT n).data.toList = .ok n ∧ (digT n).data.toList = Lib.itoa n := by
  rcases six h with rfl | rfl | rfl | rfl | rfl | rfl <;> exact ⟨by decide +kernel, by decide +kernel⟩
theorem hasPreS {l p : List UInt8} (h : Lib.hasPrefix l p = true) : l = p ++ Lib.trimPrefix l p := by
  obtain ⟨r, rfl⟩ := List.isPrefixOf_iff_prefix.1 h
  rw [Lib.trimPrefix, if_pos h, List.drop_left]
theorem preS_has (p r : List UInt8) : Lib.hasPrefix (p ++ r) p = true := List.isPrefixOf_iff_prefix.2 ⟨r, rfl⟩
theorem preS_trim (p r : List UInt8) : Lib.trimPrefix (p ++ r) p = r := by rw [Lib.trimPrefix, if_pos (preS_has p r), List.drop_left]
/-- s spells n: so its rest behind the word is n's digit. -/
theorem of_spell {s : ByteArray} {n : Int} (h : s.toList = (stT n).toList) : Lib.hasPrefix s.data.toList preS.data.toList = true ∧ Lib.trimPrefix s.data.toList preS.data.toList = (digT n).data.toList := by
  rw [Go.ByteArray.toList_eq, Go.ByteArray.toList_eq, stT_data] at h
  rw [h]
  exact ⟨preS_has _ _, preS_trim _ _⟩
theorem parseStateBody_any (s : ByteArray) (hlim : s.size ≤ 1048576) (w : World) (hS : Said w) : Calls Tryz.prog 126 #[.string s] w (PsR w s) := by
  obtain ⟨T, hT⟩ : ∃ T : ByteArray, Hid (T = ⟨(Lib.trimPrefix s.data.toList preS.data.toList).toArray⟩) := ⟨_, Lib.hid rfl⟩
  have hTd : Hid (T.data.toList = Lib.trimPrefix s.data.toList preS.data.toList) := Lib.hid (by rw [hT.out])
  have hTl : T.size ≤ 1048576 := by
    rw [Lib.size_eq, hTd.out, Lib.trimPrefix]
    rw [Lib.size_eq] at hlim
    split
    · rw [List.length_drop]; omega
    · exact hlim
  obtain ⟨B, hB0⟩ : ∃ B : Bool, Hid (B = Lib.hasPrefix s.data.toList preS.data.toList) := ⟨_, Lib.hid rfl⟩
  have hc : ∀ W, Calls Tryz.prog 154 #[.string s, .string ⟨#[115, 116, 97, 116, 101, 32]⟩] W fun e w' => e = .returned (.tuple #[.string T, .bool B]) ∧ w' = W := fun W => by
    have := Tryz.strings_CutPrefix s preS W
    rw [← hT.out, ← hB0.out] at this
    exact this
  go_enter Tryz.func126, Tryz.ntmps126
  go_wp2_with fail
  refine (hc _).mono ?_
  rintro e w1 ⟨rfl, rfl⟩
  clear hc
  go_wp2_with fail
  refine (readNumber_any T hTl _ hS).mono ?_
  rintro e w2 ⟨v, b, rfl, h1, h2, hb⟩
  have H : Hid ((b = true → Lib.atoiAll T.data.toList = .ok v ∧ T.data.toList = Lib.itoa v) ∧ (∀ n, Lib.atoiAll T.data.toList = .ok n → T.data.toList = Lib.itoa n → b = true ∧ v = n)) := Lib.hid ⟨h1, h2⟩
  clear h1 h2
  -- if s spells n, all three tests hold
  have HN : Hid (∀ n : Int, 0 ≤ n ∧ n ≤ 5 → s.toList = (stT n).toList → B = true ∧ b = true ∧ v = n) := Lib.hid (fun n hn hs => by
    obtain ⟨p1, p2⟩ := of_spell hs
    have hd : T.data.toList = (digT n).data.toList := hTd.out.trans p2
    obtain ⟨q1, q2⟩ := dig_ok hn
    obtain ⟨r1, r2⟩ := H.out.2 n (by rw [hd]; exact q1) (by rw [hd]; exact q2)
    exact ⟨hB0.out.trans p1, r1, r2⟩)
  have HY : Hid (B = true → b = true → 0 ≤ v ∧ v ≤ 5 → Spells s v) := Lib.hid (fun hB hb hv => by
    refine .inr ⟨hv, ?_⟩
    obtain ⟨_, hi⟩ := H.out.1 hb
    have hs := hasPreS (hB0.out.symm.trans hB)
    rw [Go.ByteArray.toList_eq, Go.ByteArray.toList_eq, stT_data, (dig_ok hv).2, ← hi, hTd.out]
    exact hs)
  clear H
  cases B with
  | false =>
    have HR : Hid (Spells s (-1)) := Lib.hid (.inl ⟨rfl, fun n hn hs => by have := (HN.out n hn hs).1; cases this⟩)
    clear HN HY
    go_wp2
    go_ret2
    exact ⟨0, false, rfl, Lib.hid (.inl ⟨rfl, rfl, HR.out⟩), hb⟩
  | true =>
    cases b with
    | false =>
      have HR : Hid (Spells s (-1)) := Lib.hid (.inl ⟨rfl, fun n hn hs => by have := (HN.out n hn hs).2.1; cases this⟩)
      clear HN HY
      go_wp2
      go_ret2
      exact ⟨0, false, rfl, Lib.hid (.inl ⟨rfl, rfl, HR.out⟩), hb⟩
    | true =>
      go_wp2_with fail
      refine (isState_a v _).mono ?_
      rintro e w3 ⟨rfl, hb3⟩
      have hB3 := Below.on' hb hb3
      by_cases g : stOk v = true
      · have hv := stOk_in g
        have HR := Lib.hid (HY.out (by trivial) (by trivial) hv)
        rw [g]
        clear HN HY
        go_wp2
        go_ret2
        exact ⟨v, true, rfl, Lib.hid (.inr ⟨rfl, hv.1, HR.out⟩), hB3⟩
      · have HR : Hid (Spells s (-1)) := Lib.hid (.inl ⟨rfl, fun n hn hs => by
          obtain ⟨_, _, rfl⟩ := HN.out n hn hs
          exact g (by simp [stOk, inB, hn])⟩)
        have g' : stOk v = false := by simpa using g
        rw [g']
        clear HN HY g
        go_wp2
        go_ret2
        exact ⟨0, false, rfl, Lib.hid (.inl ⟨rfl, rfl, HR.out⟩), hB3⟩
end Go.Proofs.YtjmjilkpckbpeaaGreatDoor
namespace Go.Proofs.YtjmjilkpckbpeaaGreatDoor
open Go.RowKit

/-- The states that may follow a state. -/
def nextL (a : Int) : List Int := if a = 0 then [1, 5] else if a = 1 then [0, 2] else if a = 2 then [3, 4] else if a = 3 then [4] else if a = 4 then [0, 1, 5] else [0]
def mayB (a b : Int) : Bool := decide (b ∈ nextL a)
/-- The state that a text spells, or -1. -/
def stF (s : ByteArray) : Int := match (List.range 6).find? (fun k : Nat => decide (s.toList = (stT k).toList)) with
  | some k => k
  | none => -1
theorem stF_spells (s : ByteArray) : Spells s (stF s) := by
  unfold stF
  cases h : (List.range 6).find? (fun k : Nat => decide (s.toList = (stT k).toList)) with
  | some k =>
    have h1 := List.find?_some h
    have h2 := List.mem_range.1 (List.mem_of_find?_eq_some h)
    exact .inr ⟨by show (0:Int) ≤ (k : Int) ∧ (k : Int) ≤ 5; omega, by simpa using h1⟩
  | none =>
    refine .inl ⟨rfl, fun n hn he => ?_⟩
    have := List.find?_eq_none.1 h n.toNat (List.mem_range.2 (by omega))
    rw [show ((n.toNat : Nat) : Int) = n by omega] at this
    simp [he] at this
theorem stF_of {s : ByteArray} {v : Int} (h : Spells s v) : v = stF s := h.uniq (stF_spells s)
theorem stF_in (s : ByteArray) : stF s = -1 ∨ (0 ≤ stF s ∧ stF s ≤ 5) := by
  rcases stF_spells s with ⟨h, _⟩ | ⟨h, _⟩
  · exact .inl h
  · exact .inr h
/-- The states that the messages of a name tell. -/
def sentS (s : List Msg) (nm : ByteArray) : List Int := (s.filter fun m => decide (m.f.toList = nm.toList)).map fun m => stF m.b
def chainF (st : Int) : List Int → Option Int
  | [] => some st
  | x :: r => if mayB st x = true then chainF x r else none
def withSt (a : App) (st : Int) : App := { a with st := st }
/-- The i-th appliance at both ends, as the reference tests it. -/
def endAt (f n : List App) (s : List Msg) (i : Nat) : Bool := match f[i]?, n[i]? with
  | some a, some b => (match chainF a.st (sentS s a.nm) with | some x => App.eqB (withSt a x) b | none => false)
  | _, _ => true
def knownB (f : List App) (m : Msg) : Bool := (f.any fun a => decide (a.nm.toList = m.f.toList)) && decide (0 ≤ stF m.b)
def endsB (f n : List App) (s r h : List Msg) : Bool := fleetB f && fleetB n && chanB s r h && decide (f.length = n.length) && s.all (knownB f) && (List.range f.length).all (endAt f n s)

/-- The map of the states, as the program keeps it. -/
abbrev StM := ByteArray → Option Int
def updM (M : StM) (k : ByteArray) (v : Int) : StM := fun x => if x = k then some v else M x
def foldM (M : StM) : List Msg → Option StM
  | [] => some M
  | m :: s => match M m.f with
    | some b => if 0 ≤ stF m.b ∧ mayB b (stF m.b) = true then foldM (updM M m.f (stF m.b)) s else none
    | none => none
theorem sentS_cons (m : Msg) (s : List Msg) (nm : ByteArray) : sentS (m :: s) nm = if m.f = nm then stF m.b :: sentS s nm else sentS s nm := by
  unfold sentS
  by_cases h : m.f = nm
  · simp [h]
  · have : ¬ m.f.toList = nm.toList := fun e => h (toList_inj e)
    simp [h, this]
theorem foldM_some : ∀ {s : List Msg} {M M' : StM}, foldM M s = some M' → (∀ m ∈ s, (M m.f).isSome = true ∧ 0 ≤ stF m.b) ∧ (∀ nm st, M nm = some st → ∃ st', M' nm = some st' ∧ chainF st (sentS s nm) = some st') ∧ ∀ nm, M nm = none → M' nm = none
  | [], M, M', h => by
    simp only [foldM, Option.some.injEq] at h
    subst h
    exact ⟨by simp, fun nm st hs => ⟨st, hs, rfl⟩, fun nm hn => hn⟩
  | m :: s, M, M', h => by
    rw [foldM] at h
    cases hm : M m.f with
    | none => rw [hm] at h; cases h
    | some b =>
      rw [hm] at h
      simp only at h
      split at h
      · rename_i hc
        obtain ⟨h1, h2, h3⟩ := foldM_some h
        have hd : ∀ x, M x = none → updM M m.f (stF m.b) x = none := by
          intro x hx
          unfold updM
          rw [if_neg (by rintro rfl; rw [hm] at hx; cases hx), hx]
        refine ⟨?_, ?_, fun nm hn => h3 nm (hd nm hn)⟩
        · intro x hx
          rcases List.mem_cons.1 hx with rfl | hx
          · exact ⟨by rw [hm]; rfl, hc.1⟩
          · refine ⟨?_, (h1 x hx).2⟩
            cases e : M x.f with
            | some => rfl
            | none => have := (h1 x hx).1; rw [hd _ e] at this; cases this
        · intro nm st hs
          rw [sentS_cons]
          by_cases hn : m.f = nm
          · subst hn
            rw [hm] at hs
            obtain rfl := Option.some.inj hs
            rw [if_pos rfl, chainF, if_pos hc.2]
            exact h2 m.f (stF m.b) (by simp [updM])
          · rw [if_neg hn]
            exact h2 nm st (by unfold updM; rw [if_neg (fun e => hn e.symm)]; exact hs)
      · cases h
theorem foldM_none : ∀ {s : List Msg} {M : StM}, foldM M s = none → (∃ m ∈ s, M m.f = none ∨ stF m.b < 0) ∨ ∃ nm st, M nm = some st ∧ chainF st (sentS s nm) = none
  | [], M, h => by cases h
  | m :: s, M, h => by
    rw [foldM] at h
    cases hm : M m.f with
    | none => exact .inl ⟨m, by simp, .inl hm⟩
    | some b =>
      rw [hm] at h
      simp only at h
      split at h
      · rename_i hc
        rcases foldM_none h with ⟨x, hx, hb⟩ | ⟨nm, st, hs, hch⟩
        · refine .inl ⟨x, List.mem_cons_of_mem _ hx, ?_⟩
          rcases hb with hb | hb
          · unfold updM at hb
            split at hb
            · cases hb
            · exact .inl hb
          · exact .inr hb
        · by_cases hn : nm = m.f
          · subst hn
            simp only [updM, if_true, Option.some.injEq] at hs
            subst hs
            exact .inr ⟨m.f, b, hm, by rw [sentS_cons, if_pos rfl, chainF, if_pos hc.2]; exact hch⟩
          · unfold updM at hs
            rw [if_neg hn] at hs
            exact .inr ⟨nm, st, hs, by rw [sentS_cons, if_neg (fun e => hn e.symm)]; exact hch⟩
      · rename_i hc
        by_cases h0 : 0 ≤ stF m.b
        · refine .inr ⟨m.f, b, hm, ?_⟩
          rw [sentS_cons, if_pos rfl, chainF, if_neg (fun e => hc ⟨h0, e⟩)]
        · exact .inl ⟨m, by simp, .inr (by omega)⟩
theorem bless_cons (a b : UInt8) (x y : List UInt8) : Op.bytesLess (a :: x) (b :: y) = if a.toNat < b.toNat then true else if b.toNat < a.toNat then false else Op.bytesLess x y := by
  simp only [Op.bytesLess, UInt8.lt_iff_toNat_lt]
  by_cases h1 : a.toNat < b.toNat
  · rw [if_pos h1]; simp [h1]
  · rw [if_neg h1]
    by_cases h2 : b.toNat < a.toNat
    · rw [if_pos h2]
      have : a ≠ b := by rintro rfl; omega
      simp [h1, this]
    · rw [if_neg h2]
      have : a = b := UInt8.toNat_inj.1 (by omega)
      subst this
      simp
theorem bless_irr : ∀ x : List UInt8, Op.bytesLess x x = false
  | [] => rfl
  | a :: x => by rw [bless_cons, if_neg (Nat.lt_irrefl _), if_neg (Nat.lt_irrefl _), bless_irr x]
theorem bless_trans : ∀ {x y z : List UInt8}, Op.bytesLess x y = true → Op.bytesLess y z = true → Op.bytesLess x z = true
  | [], [], z, h, _ => by cases h
  | [], b :: y, [], _, h => by cases h
  | [], b :: y, c :: z, _, _ => rfl
  | a :: x, [], z, h, _ => by cases h
  | a :: x, b :: y, [], _, h => by cases h
  | a :: x, b :: y, c :: z, h, k => by
    rw [bless_cons] at h k ⊢
    by_cases h1 : a.toNat < b.toNat
    · by_cases k1 : b.toNat < c.toNat
      · rw [if_pos (by omega)]
      · rw [if_neg k1] at k
        by_cases k2 : c.toNat < b.toNat
        · rw [if_pos k2] at k; cases k
        · rw [if_pos (by omega)]
    · rw [if_neg h1] at h
      by_cases h2 : b.toNat < a.toNat
      · rw [if_pos h2] at h; cases h
      · rw [if_neg h2] at h
        by_cases k1 : b.toNat < c.toNat
        · rw [if_pos (by omega)]
        · rw [if_neg k1] at k
          by_cases k2 : c.toNat < b.toNat
          · rw [if_pos k2] at k; cases k
          · rw [if_neg k2] at k
            rw [if_neg (by omega), if_neg (by omega)]
            exact bless_trans h k
theorem fleet_at {l : List App} (h : fleetB l = true) {i : Nat} (hi : i < l.length) : fltAt l i = true := by
  unfold fleetB at h
  rw [Bool.and_eq_true] at h
  exact List.all_eq_true.1 h.1 i (List.mem_range.2 hi)
theorem fleet_lt {l : List App} (h : fleetB l = true) : ∀ {j i : Nat} {a b : App}, i < j → l[i]? = some a → l[j]? = some b → Op.bytesLess a.nm.toList b.nm.toList = true
  | 0, i, a, b, hij, _, _ => by omega
  | j + 1, i, a, b, hij, ha, hb => by
    have hj : j + 1 < l.length := (List.getElem?_eq_some_iff.1 hb).1
    have hy : l[j]? = some l[j] := List.getElem?_eq_getElem (by omega)
    have := fleet_at h hj
    rw [fltAt_s hb hy, Bool.and_eq_true] at this
    by_cases e : i = j
    · subst e
      rw [hy] at ha
      obtain rfl := Option.some.inj ha
      exact this.2
    · exact bless_trans (fleet_lt h (by omega) ha hy) this.2
theorem fleet_inj {l : List App} (h : fleetB l = true) {i j : Nat} {a b : App} (ha : l[i]? = some a) (hb : l[j]? = some b) (e : a.nm = b.nm) : i = j := by
  rcases Nat.lt_trichotomy i j with hij | hij | hij
  · have := fleet_lt h hij ha hb; rw [e, bless_irr] at this; cases this
  · exact hij
  · have := fleet_lt h hij hb ha; rw [e, bless_irr] at this; cases this
/-- The states at first. -/
def mapM (l : List App) : StM := fun x => (l.find? fun a : App => decide (a.nm = x)).map fun a : App => a.st
theorem mapM_at {l : List App} (h : fleetB l = true) {i : Nat} {a : App} (ha : l[i]? = some a) : mapM l a.nm = some a.st := by
  unfold mapM
  cases e : l.find? fun b => decide (b.nm = a.nm) with
  | none =>
    have := List.find?_eq_none.1 e a (List.mem_of_getElem? ha)
    simp at this
  | some b =>
    have h1 : b.nm = a.nm := by simpa using List.find?_some e
    obtain ⟨j, hj⟩ := List.mem_iff_getElem?.1 (List.mem_of_find?_eq_some e)
    have := fleet_inj h hj ha h1
    subst this
    rw [ha] at hj
    obtain rfl := Option.some.inj hj
    rfl
theorem mapM_some {l : List App} {x : ByteArray} {v : Int} (e : mapM l x = some v) : ∃ (i : Nat) (a : App), l[i]? = some a ∧ a.nm = x ∧ a.st = v := by
  unfold mapM at e
  cases h : l.find? fun b => decide (b.nm = x) with
  | none => rw [h] at e; cases e
  | some b =>
    rw [h] at e
    obtain ⟨i, hi⟩ := List.mem_iff_getElem?.1 (List.mem_of_find?_eq_some h)
    exact ⟨i, b, hi, by simpa using List.find?_some h, by simpa using e⟩
/-- The i-th appliance at both ends, as the program tests it first. -/
def fldAt (f n : List App) (i : Nat) : Bool := match f[i]?, n[i]? with
  | some a, some b => App.eqB (withSt a b.st) b
  | _, _ => true
def finB (M : StM) (n : List App) : Bool := n.all fun b => decide ((M b.nm).getD 0 = b.st)
def finI (f n : List App) (s : List Msg) : Bool := match foldM (mapM f) s with
  | some M => finB M n
  | none => false
def endsI (f n : List App) (s r h : List Msg) : Bool := fleetB f && fleetB n && chanB s r h && decide (f.length = n.length) && (List.range f.length).all (fldAt f n) && finI f n s
theorem all_range {k : Nat} {p : Nat → Bool} : (List.range k).all p = true ↔ ∀ i, i < k → p i = true := by
  rw [List.all_eq_true]
  exact ⟨fun h i hi => h i (List.mem_range.2 hi), fun h i hi => h i (List.mem_range.1 hi)⟩
theorem known_iff {f : List App} {m : Msg} : knownB f m = true ↔ (mapM f m.f).isSome = true ∧ 0 ≤ stF m.b := by
  unfold knownB
  rw [Bool.and_eq_true, List.any_eq_true]
  constructor
  · rintro ⟨⟨a, ha, hn⟩, h⟩
    refine ⟨?_, by simpa using h⟩
    unfold mapM
    cases e : f.find? fun b => decide (b.nm = m.f) with
    | some => rfl
    | none =>
      have := List.find?_eq_none.1 e a ha
      have hn' : a.nm = m.f := toList_inj (by simpa using hn)
      simp [hn'] at this
  · rintro ⟨h1, h2⟩
    refine ⟨?_, by simpa using h2⟩
    cases e : mapM f m.f with
    | none => rw [e] at h1; cases h1
    | some v =>
      obtain ⟨i, a, ha, hn, _⟩ := mapM_some e
      exact ⟨a, List.mem_of_getElem? ha, by simp [hn]⟩
theorem ends_eq (f n : List App) (s r h : List Msg) : endsI f n s r h = endsB f n s r h := by
  unfold endsI endsB
  by_cases g : (fleetB f && fleetB n && chanB s r h && decide (f.length = n.length)) = true
  rotate_left
  · have g : (fleetB f && fleetB n && chanB s r h && decide (f.length = n.length)) = false := by simpa using g
    rw [g]; rfl
  rw [g, Bool.true_and, Bool.true_and]
  simp only [Bool.and_eq_true, decide_eq_true_eq] at g
  obtain ⟨⟨⟨gf, gn⟩, _⟩, gl⟩ := g
  rw [Bool.eq_iff_iff, Bool.and_eq_true, Bool.and_eq_true, all_range, all_range, List.all_eq_true]
  have two : ∀ i, i < f.length → ∃ a b : App, f[i]? = some a ∧ n[i]? = some b := fun i hi => ⟨f[i], n[i]'(by omega), List.getElem?_eq_getElem hi, List.getElem?_eq_getElem (by omega)⟩
  constructor
  · rintro ⟨h1, h2⟩
    unfold finI at h2
    cases e : foldM (mapM f) s with
    | none => rw [e] at h2; cases h2
    | some M =>
      rw [e] at h2
      obtain ⟨q1, q2, _⟩ := foldM_some e
      refine ⟨fun m hm => known_iff.2 (q1 m hm), fun i hi => ?_⟩
      obtain ⟨a, b, ha, hb⟩ := two i hi
      have hE := h1 i hi
      simp only [fldAt, ha, hb] at hE
      have hE' := App.eqB_iff.1 hE
      obtain ⟨st', k1, k2⟩ := q2 a.nm a.st (mapM_at gf ha)
      have hbn : b.nm = a.nm := by rw [← hE']; rfl
      have h3 := List.all_eq_true.1 h2 b (List.mem_of_getElem? hb)
      rw [hbn, k1] at h3
      have h4 : st' = b.st := by simpa using h3
      simp only [endAt, ha, hb, k2, h4]
      exact hE
  · rintro ⟨h1, h2⟩
    have hA : ∀ (i : Nat) (a b : App), f[i]? = some a → n[i]? = some b → chainF a.st (sentS s a.nm) = some b.st ∧ withSt a b.st = b := by
      intro i a b ha hb
      have := h2 i (List.getElem?_eq_some_iff.1 ha).1
      simp only [endAt, ha, hb] at this
      cases e : chainF a.st (sentS s a.nm) with
      | none => rw [e] at this; cases this
      | some x =>
        rw [e] at this
        have hx := App.eqB_iff.1 this
        have : b.st = x := by rw [← hx]; rfl
        rw [this]
        exact ⟨rfl, hx⟩
    refine ⟨fun i hi => ?_, ?_⟩
    · obtain ⟨a, b, ha, hb⟩ := two i hi
      simp only [fldAt, ha, hb]
      exact App.eqB_iff.2 (hA i a b ha hb).2
    · unfold finI
      cases e : foldM (mapM f) s with
      | none =>
        rcases foldM_none e with ⟨m, hm, hq⟩ | ⟨nm, st, hs, hc⟩
        · obtain ⟨k1, k2⟩ := known_iff.1 (h1 m hm)
          rcases hq with hq | hq
          · rw [hq] at k1; cases k1
          · omega
        · obtain ⟨i, a, ha, rfl, rfl⟩ := mapM_some hs
          obtain ⟨a', b, ha', hb⟩ := two i (List.getElem?_eq_some_iff.1 ha).1
          rw [ha] at ha'
          obtain rfl := Option.some.inj ha'
          rw [(hA i a b ha hb).1] at hc
          cases hc
      | some M =>
        obtain ⟨_, q2, _⟩ := foldM_some e
        refine List.all_eq_true.2 fun b hb => ?_
        obtain ⟨i, hi⟩ := List.mem_iff_getElem?.1 hb
        have hl : i < f.length := by have := (List.getElem?_eq_some_iff.1 hi).1; omega
        obtain ⟨a, b', ha, hb'⟩ := two i hl
        rw [hi] at hb'
        obtain rfl := Option.some.inj hb'
        obtain ⟨c1, c2⟩ := hA i a b ha hi
        obtain ⟨st', k1, k2⟩ := q2 a.nm a.st (mapM_at gf ha)
        rw [c1] at k2
        obtain rfl := Option.some.inj k2
        have hbn : b.nm = a.nm := by rw [← c2]; rfl
        rw [hbn, k1]
        simp
end Go.Proofs.YtjmjilkpckbpeaaGreatDoor

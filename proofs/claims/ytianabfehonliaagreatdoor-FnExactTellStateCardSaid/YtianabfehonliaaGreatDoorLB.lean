/- Several texts of this seat, one behind the other. Messages in memory, and the law's own helpers over them: copying, measuring, comparing, marking. No conditions. Messages that come in as arguments, opened. No conditions. Messages: writing marks into them and reading the marks back. Condition: the numbers of the marks lie in 1 .. 99999999. Messages: two compared; a list searched, copied. Condition of each: at most 2^20 elements. Appliances in memory, and the law's own helpers over them: copying, measuring, comparing, marking. No conditions. Appliances that come in as arguments, opened. No conditions. Appliances: writing marks into them and reading the marks back. Condition: the numbers of the marks lie in 1 .. 99999999. Appliances: two compared; a list searched, copied. Condition of each: at most 2^20 elements. -/
import Derived.Test.YtianabfehonliaaGreatDoorLA
import Derived.StillTailTactics
import Derived.Deep.RegionHeld3
import Derived.OwnWalk
import Derived.BigQuiet
import Derived.Shelf.Abstract
namespace Go.Proofs.YtianabfehonliaaGreatDoor
open Go.RowKit

structure Msg where
  f : ByteArray
  n : Int
  b : ByteArray
def Msg.cells (e : Msg) : List Value := [.string e.f, .int .i64 e.n, .string e.b]
theorem Msg.len (e : Msg) : e.cells.length = 3 := rfl
abbrev Msgs (w : World) (lo hi : Nat) (A : Option Addr) (l : List Msg) : Prop := Sl Msg.cells 3 w lo hi A l

theorem toMessage_any (f : ByteArray) (n : Int) (b : ByteArray) (w : World) : Calls Tryz.prog 191 #[.agg #[.string f, .int .i64 n, .string b]] w (RV w (.agg #[.string f, .int .i64 n, .string b])) := by
  go_enter Tryz.func191, Tryz.ntmps191
  go_wp2
  go_returns
  exact RV.mk rfl (by go_grown)
theorem eqMessage_same (f : ByteArray) (n : Int) (b : ByteArray) (w : World) : Calls Tryz.prog 193 #[.agg #[.string f, .int .i64 n, .string b], .agg #[.string f, .int .i64 n, .string b]] w (RV w (.bool true)) := by
  go_enter Tryz.func193, Tryz.ntmps193
  go_wp2
  go_ret
  exact RV.mk rfl (by go_grown)
def szMsg (f : ByteArray) (b : ByteArray) (left : Int) : Int := (if left - f.size < 0 then -1 else (if left - f.size - b.size < 0 then -1 else left - f.size - b.size))
theorem szMessage_any (f : ByteArray) (n : Int) (b : ByteArray) (left : Int) (hf : f.size ≤ maxLen) (hb : b.size ≤ maxLen) (h0 : 0 ≤ left) (h1 : left ≤ 1048576) (w : World) :
    Calls Tryz.prog 189 #[.agg #[.string f, .int .i64 n, .string b], .int .i64 left] w (RV w (.int .i64 (szMsg f b left))) := by
  unfold maxLen at hf hb
  go_enter Tryz.func189, Tryz.ntmps189
  go_wp2
  all_goals go_ret
  all_goals exact RV.mk (vint (by unfold szMsg; (repeat' split) <;> omega)) (by go_grown)
theorem szMsg_pos (f : ByteArray) (b : ByteArray) (left : Int) : szMsg f b left < 0 ∨ (szMsg f b left = left - f.size - b.size ∧ 0 ≤ left - f.size - b.size) := by
  unfold szMsg; (repeat' split) <;> omega
set_option maxHeartbeats 400000 in
theorem szMessageS_any (A : Option Addr) (c : Nat) (l : List Msg) (left : Int) (w : World) (hl : l.length ≤ maxLen) (hm : ∀ x ∈ l, x.f.size ≤ maxLen ∧ x.b.size ≤ maxLen) (hS : Msgs w 0 w.heap.size A l) (h0 : 0 ≤ left) (h1 : left ≤ 1048576) :
    Calls Tryz.prog 156 #[.slice A l.length c, .int .i64 left] w fun e w' => ∃ r : Int, e = .returned (.int .i64 r) ∧ r ≤ left ∧ (0 ≤ r → l.length ≤ 1048576 ∧ ∀ x ∈ l, x.f.size ≤ 1048576 ∧ x.b.size ≤ 1048576) ∧ Below w.heap.size w w' := by
  unfold maxLen at hl
  go_enter Tryz.func156, Tryz.ntmps156
  by_cases hln : (l.length : Int) ≤ left
  · go_wp2
    go_loopw [1, 5] (fun v i wr => ∃ (k : Nat) (q : Int), k ≤ l.length ∧ i = .int .i64 k ∧ v = .int .i64 q ∧ 0 ≤ q ∧ q ≤ left ∧ (∀ x ∈ l.take k, x.f.size ≤ 1048576 ∧ x.b.size ≤ 1048576) ∧ Below w.heap.size w wr) (fun _ i _ => l.length - (intOf i).toNat)
    case atStart => exact ⟨0, _, Nat.zero_le _, rfl, rfl, by omega, by omega, by simp, Below.refl _ _⟩
    case round =>
      obtain ⟨k, q, hk, rfl, rfl, hq0, hq1, hx, hB⟩ := hrel
      by_cases hlt : k < l.length
      · obtain ⟨x, hx1, hx2⟩ := get_lt hlt
        obtain ⟨b, off, rfl, _, _, _, hf⟩ := (hS.below hB).at_ hx1
        have c0 : wr.cell? ⟨b, off + k * 3, none⟩ = some (.string x.f) := (hf 0 _ rfl).1
        have c1 : wr.cell? ⟨b, off + k * 3 + 1, none⟩ = some (.int .i64 x.n) := (hf 1 _ rfl).1
        have c2 : wr.cell? ⟨b, off + k * 3 + 2, none⟩ = some (.string x.b) := (hf 2 _ rfl).1
        have HX := Lib.hid hx1
        clear hf hx1
        go_wp2_with fail
        have hsz := hm x hx2
        have hsp := szMsg_pos x.f x.b q
        refine (szMessage_any _ _ _ _ hsz.1 hsz.2 (by omega) (by omega) _).mono ?_
        rintro e w1 ⟨rfl, hb⟩
        have hB1 : Below w.heap.size w w1 := Below.on' (by go_grown) hb
        rcases hsp with hq | ⟨hq, hq2⟩
        · go_wp2
          go_ret
          exact ⟨_, rfl, by omega, by omega, hB1⟩
        · have hx' : ∀ x ∈ l.take (k + 1), x.f.size ≤ 1048576 ∧ x.b.size ≤ 1048576 := by
            intro y hy
            rw [take_snoc HX.out, List.mem_append] at hy
            rcases hy with hy | hy
            · exact hx y hy
            · obtain rfl := List.mem_singleton.1 hy
              omega
          have hq3 : ¬ szMsg x.f x.b q < 0 := by omega
          have hq4 : szMsg x.f x.b q ≤ left := by omega
          clear hq
          go_wp2
          go_roundw
          case rel => exact ⟨k + 1, _, by omega, by go_num, rfl, by omega, by omega, hx', hB1⟩
          case measure => simp [intOf]; omega
      · go_wp2
        go_ret
        exact ⟨_, rfl, hq1, fun _ => ⟨by omega, fun y hy => hx y (by rw [List.take_of_length_le (by omega)]; exact hy)⟩, hB⟩
  · go_wp2
    go_ret
    exact ⟨_, rfl, by omega, by omega, Below.refl _ _⟩
theorem Msg.info : (Tryz.prog.info? 66).map (fun i => (i.zero, i.size, i.bytes)) = some (some (.agg #[.string ⟨#[]⟩, .int .i64 0, .string ⟨#[]⟩]), 3, 40) := by kernel_rfl
set_option maxHeartbeats 800000 in
theorem toMessageS_any (A : Option Addr) (c : Nat) (l : List Msg) (w : World) (hl : l.length ≤ 1048576) (hS : Msgs w 0 w.heap.size A l) :
    Calls Tryz.prog 160 #[.slice A l.length c] w fun e w' => ∃ g, e = .returned (.slice (some ⟨g, 0, none⟩) l.length l.length) ∧ Msgs w' w.heap.size w'.heap.size (some ⟨g, 0, none⟩) l ∧ Below w.heap.size w w' := by
  obtain ⟨i0, hi0, hz0, hz1, hz2⟩ := info_parts Msg.info
  go_enter Tryz.func160, Tryz.ntmps160
  go_wp2_with (at_make; refine wpList_make_full _ rfl (.tmp 6) (.tmp 6) _ rfl w.heap.size 66 i0 _ 3 Tryz.underlying32 hi0 hz0 hz1 .i64 .i64 _ _ l.length rfl rfl rfl rfl (by rw [hz2]; omega) (by unfold maxLen; omega) (Nat.le_refl _) ?_; intro w1 hown hg)
  have hR : Room w1 w.heap.size 66 (l.length * 3) := Room.of_own hown
  have hB1 : Below w.heap.size w w1 := (Below.refl _ _).grown hg (Nat.le_refl _) (by simp)
  clear hown hg hi0 hz0 hz1 hz2
  go_loopw [4] (fun i wr => ∃ q : Nat, q ≤ l.length ∧ i = .int .i64 q ∧ Room wr w.heap.size 66 (l.length * 3) ∧ Msgs wr w.heap.size wr.heap.size (some ⟨w.heap.size, 0, none⟩) (l.take q) ∧ Below w.heap.size w wr) (fun i _ => l.length - (intOf i).toNat)
  case atStart => exact ⟨0, Nat.zero_le _, rfl, hR, by simpa using Sl.nil_, hB1⟩
  case round =>
    obtain ⟨q, hq, rfl, hR, hT, hB⟩ := hrel
    by_cases hlt : q < l.length
    · obtain ⟨x, hx1, hx2⟩ := get_lt hlt
      obtain ⟨b, off, rfl, _, _, _, hf⟩ := (hS.below hB).at_ hx1
      have c0 : wr.cell? ⟨b, off + q * 3, none⟩ = some (.string x.f) := (hf 0 _ rfl).1
      have c1 : wr.cell? ⟨b, off + q * 3 + 1, none⟩ = some (.int .i64 x.n) := (hf 1 _ rfl).1
      have c2 : wr.cell? ⟨b, off + q * 3 + 2, none⟩ = some (.string x.b) := (hf 2 _ rfl).1
      have HX := Lib.hid hx1
      clear hf hx1
      go_wp2_with fail
      refine (toMessage_any _ _ _ _).mono ?_
      rintro e w2 ⟨rfl, hb⟩
      have hB2 : Below w.heap.size w w2 := Below.on' (by go_grown) hb
      have hR2 := hR.below hb
      have hT2 := (hT.below hb).mono (Nat.le_refl _) hb.size (Nat.le_refl _)
      have hg2 := hR2.lt
      obtain ⟨u0, d0⟩ := hR2.cell (i := q * 3) (by omega)
      have f0 := hR2.frozen (q * 3)
      obtain ⟨u1, d1⟩ := hR2.cell (i := q * 3 + 1) (by omega)
      have f1 := hR2.frozen (q * 3 + 1)
      obtain ⟨u2, d2⟩ := hR2.cell (i := q * 3 + 2) (by omega)
      have f2 := hR2.frozen (q * 3 + 2)
      clear hb hR hT c0 c1 c2
      go_wp2
      go_roundw
      case rel =>
        have hP := Sl.push_cells hT2 HX.out Msg.len (Nat.le_refl _) hg2 (Nat.le_refl _) hR2 (by omega)
        refine ⟨q + 1, by omega, by go_num, hR2.setCells w.heap.size (q * 3) (x.cells), ?_, by go_grown⟩
        exact hP.mono (Nat.le_refl _) (by simp [World.setCell]) (Nat.le_refl _)
      case measure => simp [intOf]; omega
    · go_wp2
      go_ret
      refine ⟨w.heap.size, rfl, ?_, hB⟩
      have : l.take q = l := List.take_of_length_le (by omega)
      rw [this] at hT
      exact hT
set_option maxRecDepth 100000 in
set_option maxHeartbeats 800000 in
theorem eqMessageS_same (A A' : Option Addr) (c c' lo hi lo' hi' : Nat) (l : List Msg) (w : World) (hl : l.length ≤ 1048576) (hS : Msgs w lo hi A l) (hS' : Msgs w lo' hi' A' l) :
    Calls Tryz.prog 165 #[.slice A l.length c, .slice A' l.length c'] w (RV w (.bool true)) := by
  go_enter Tryz.func165, Tryz.ntmps165
  go_wp2
  go_loopw [5] (fun i wr => ∃ q : Nat, q ≤ l.length ∧ i = .int .i64 q ∧ Below w.heap.size w wr) (fun i _ => l.length - (intOf i).toNat)
  case atStart => exact ⟨0, Nat.zero_le _, rfl, Below.refl _ _⟩
  case round =>
    obtain ⟨q, hq, rfl, hB⟩ := hrel
    by_cases hlt : q < l.length
    · obtain ⟨x, hx1, hx2⟩ := get_lt hlt
      obtain ⟨b, off, rfl, _, _, _, hf⟩ := (hS.below hB).at_ hx1
      have c0 : wr.cell? ⟨b, off + q * 3, none⟩ = some (.string x.f) := (hf 0 _ rfl).1
      have c1 : wr.cell? ⟨b, off + q * 3 + 1, none⟩ = some (.int .i64 x.n) := (hf 1 _ rfl).1
      have c2 : wr.cell? ⟨b, off + q * 3 + 2, none⟩ = some (.string x.b) := (hf 2 _ rfl).1
      clear hf
      obtain ⟨b', off', rfl, _, _, _, hf⟩ := (hS'.below hB).at_ hx1
      have d0 : wr.cell? ⟨b', off' + q * 3, none⟩ = some (.string x.f) := (hf 0 _ rfl).1
      have d1 : wr.cell? ⟨b', off' + q * 3 + 1, none⟩ = some (.int .i64 x.n) := (hf 1 _ rfl).1
      have d2 : wr.cell? ⟨b', off' + q * 3 + 2, none⟩ = some (.string x.b) := (hf 2 _ rfl).1
      clear hf hx1
      have hq0 : (0 : Int) ≤ (q : Int) := by omega
      have hq1 : (q : Int) < (l.length : Int) := by omega
      go_wp2_with fail
      go_still_tail 8, (by kernel_rfl)
      change wpList _ _ _ _ _ wr.drew
      generalize hw2 : wr.drew = w2
      have hB2 : Below w.heap.size w w2 := by rw [← hw2]; exact hB.drew
      clear hw2
      go_wp2_with fail
      refine (eqMessage_same _ _ _ _).mono ?_
      rintro e w3 ⟨rfl, hb⟩
      have hB3 : Below w.heap.size w w3 := Below.on' (by go_grown) hb
      go_wp2
      go_roundw
      case rel => exact ⟨q + 1, by omega, by go_num, hB3⟩
      case measure => simp [intOf]; omega
    · go_wp2
      go_ret
      exact RV.mk rfl hB
end Go.Proofs.YtianabfehonliaaGreatDoor
namespace Go.Proofs.YtianabfehonliaaGreatDoor
open Go.ChangeShapes Go.WideShapes Go.ChangeAt Go.RowKit Go.Joins Go.Deep

section
variable {H : Type} {enc : TypeId × Value → H} {W : World}
theorem Msg.rd (n : Nat) (cs' : List Value) (y : DataW H × List MemPlace) (hl : cs'.length = 3) (h : DataW.trod enc Tryz.prog W 0 (fun _ => true) true n 180 cs' = some y) :
    ∃ x : Msg, x.cells = cs' ∧ (x.f.size ≤ maxLen ∧ x.b.size ≤ maxLen) := by
  match cs', hl with
  | [c0, c1, c2], _ =>
    obtain ⟨xs, m, _, hx, _, hlen, hg⟩ := DataW.trod_struct Tryz.underlying180 h
    match xs, hlen with
    | [y0, y1, y2], _ =>
      have g0 : DataW.trod enc Tryz.prog W 0 (fun _ => true) true m 9 (List.take (Tryz.prog.cellsOf 9) (List.drop 0 [c0, c1, c2])) = some y0 := hg 0 _ rfl
      rw [show Tryz.prog.cellsOf 9 = 1 from by kernel_rfl] at g0
      have g1 : DataW.trod enc Tryz.prog W 0 (fun _ => true) true m 3 (List.take (Tryz.prog.cellsOf 3) (List.drop 1 [c0, c1, c2])) = some y1 := hg 1 _ rfl
      rw [show Tryz.prog.cellsOf 3 = 1 from by kernel_rfl] at g1
      have g2 : DataW.trod enc Tryz.prog W 0 (fun _ => true) true m 9 (List.take (Tryz.prog.cellsOf 9) (List.drop 2 [c0, c1, c2])) = some y2 := hg 2 _ rfl
      rw [show Tryz.prog.cellsOf 9 = 1 from by kernel_rfl] at g2
      obtain ⟨f, e0, _, hf⟩ := DataW.trod_string Tryz.underlying9 g0
      obtain ⟨n, e1, _, _⟩ := DataW.trod_int Tryz.underlying3 g1
      obtain ⟨b, e2, _, hb⟩ := DataW.trod_string Tryz.underlying9 g2
      simp at e0 e1 e2
      subst e0 e1 e2
      exact ⟨⟨f, n, b⟩, rfl, ⟨hf, hb⟩⟩
set_option maxRecDepth 100000 in
theorem Msg.opened {r : Reach} {b0 : Nat} {v : Value} {d : DataW H} {p : List MemPlace} (hv : Value.okWide Tryz.prog W r b0 180 v) (h : DataW.Trod enc Tryz.prog W 0 (fun _ => true) true 180 v d p) :
    ∃ x : Msg, v = .agg x.cells.toArray ∧ (x.f.size ≤ maxLen ∧ x.b.size ≤ maxLen) := by
  obtain ⟨cs, rfl, hsz⟩ := okWide_struct Tryz.underlying180 hv
  obtain ⟨fuel, hf⟩ := h
  have hC : Tryz.prog.cellsOf 180 = 3 := by kernel_rfl
  obtain ⟨x, hx, hg⟩ := Msg.rd fuel cs.toList _ (by rw [Array.length_toList]; exact hsz.trans hC) hf
  exact ⟨x, by rw [hx], hg⟩
set_option maxRecDepth 100000 in
theorem Msg.openedS {r : Reach} {b0 : Nat} {v : Value} {d : DataW H} {p : List MemPlace} (hv : Value.okWide Tryz.prog W r b0 23 v) (h : DataW.Trod enc Tryz.prog W 0 (fun _ => true) true 23 v d p) (hlt : ∀ x ∈ p, x.block < W.heap.size) (hnf : W.noneFrozen p) :
    ∃ (A : Option Addr) (c : Nat) (l : List Msg), v = .slice A l.length c ∧ l.length ≤ maxLen ∧ (∀ x ∈ l, x.f.size ≤ maxLen ∧ x.b.size ≤ maxLen) ∧ Msgs W 0 W.heap.size A l :=
  open_sl (fun x => x.f.size ≤ maxLen ∧ x.b.size ≤ maxLen) Tryz.underlying23 (by kernel_rfl) (by omega) Msg.len (fun n cs' y hl h => Msg.rd n cs' y hl h) hv h hlt hnf
end
end Go.Proofs.YtianabfehonliaaGreatDoor
namespace Go.Proofs.YtianabfehonliaaGreatDoor
open Go.RowKit

def Msg.mk1 (k : Int) : Msg := ⟨mt (k), k + 1, mt (k + 1 + 1)⟩
def Msg.mkL (k : Int) : Nat → List Msg
  | 0 => []
  | n + 1 => Msg.mkL k n ++ [Msg.mk1 (k + 3 * n)]
theorem Msg.mkL_len (k : Int) : ∀ n, (Msg.mkL k n).length = n
  | 0 => rfl
  | n + 1 => by simp [Msg.mkL, Msg.mkL_len k n]
theorem Msg.mkL_at {k : Int} : ∀ {n q : Nat}, q < n → (Msg.mkL k n)[q]? = some (Msg.mk1 (k + 3 * q))
  | 0, q, h => by omega
  | n + 1, q, h => by
    rw [Msg.mkL]
    by_cases hq : q < n
    · rw [List.getElem?_append_left (by rw [Msg.mkL_len]; exact hq)]; exact Msg.mkL_at hq
    · obtain rfl : q = n := by omega
      rw [List.getElem?_append_right (by rw [Msg.mkL_len]; omega), Msg.mkL_len]; simp
theorem Msg.mkL_set {k : Int} {l : List Msg} {q : Nat} {x : Msg} (hx : l[q]? = some x) : (Msg.mkL k q ++ l.drop q)[q]? = some x ∧ (Msg.mkL k q ++ l.drop q).set q (Msg.mk1 (k + 3 * q)) = Msg.mkL k (q + 1) ++ l.drop (q + 1) := by
  obtain ⟨hq, rfl⟩ := List.getElem?_eq_some_iff.1 hx
  constructor
  · rw [List.getElem?_append_right (by rw [Msg.mkL_len]; omega), Msg.mkL_len]; simp [hq]
  · rw [List.set_append_right _ _ (by rw [Msg.mkL_len]; omega), Msg.mkL_len, Nat.sub_self, List.drop_eq_getElem_cons hq, List.set_cons_zero, Msg.mkL, List.append_assoc]; rfl

set_option maxHeartbeats 1000000 in
theorem markMessageS_any (A : Option Addr) (c lo hi : Nat) (l : List Msg) (k : Int) (w : World) (hl : l.length ≤ 1048576) (hk0 : 1 ≤ k) (hk1 : k ≤ 50000000) (hS : Msgs w lo hi A l) :
    Calls Tryz.prog 166 #[.slice A l.length c, .int .i64 k] w fun e w' => e = .returned (.int .i64 (k + 3 * l.length)) ∧ Msgs w' lo hi A (Msg.mkL k l.length) ∧ Fr lo hi w w' := by
  go_enter Tryz.func166, Tryz.ntmps166
  go_wp2
  go_loopw [1, 5] (fun v i wr => ∃ (q : Nat) (kk : Int), q ≤ l.length ∧ i = .int .i64 q ∧ v = .int .i64 kk ∧ 1 ≤ kk ∧ kk ≤ k + 3 * q ∧ Hid (kk = k + 3 * q) ∧ Msgs wr lo hi A (Msg.mkL k q ++ l.drop q) ∧ Fr lo hi w wr) (fun _ i _ => l.length - (intOf i).toNat)
  case atStart => exact ⟨0, k, Nat.zero_le _, rfl, rfl, hk0, by omega, Lib.hid (by omega), by simpa [Msg.mkL] using hS, Fr.refl _ _ _⟩
  case round =>
    obtain ⟨q, kk, hq, rfl, rfl, hkk0, hkk1, HK, hT, hB⟩ := hrel
    by_cases hlt : q < l.length
    · obtain ⟨x, hx1, _⟩ := get_lt hlt
      obtain ⟨hx0, HL⟩ := Msg.mkL_set (k := k) hx1
      replace HL := Lib.hid HL
      obtain ⟨b, off, rfl, hlo, hhi, _, hf⟩ := hT.at_ hx0
      have c0 : wr.cell? ⟨b, off + q * 3, none⟩ = some (.string x.f) := (hf 0 _ rfl).1
      have f0 : wr.frozen? ⟨b, off + q * 3, none⟩ = false := (hf 0 _ rfl).2
      have c1 : wr.cell? ⟨b, off + q * 3 + 1, none⟩ = some (.int .i64 x.n) := (hf 1 _ rfl).1
      have f1 : wr.frozen? ⟨b, off + q * 3 + 1, none⟩ = false := (hf 1 _ rfl).2
      have c2 : wr.cell? ⟨b, off + q * 3 + 2, none⟩ = some (.string x.b) := (hf 2 _ rfl).1
      have f2 : wr.frozen? ⟨b, off + q * 3 + 2, none⟩ = false := (hf 2 _ rfl).2
      clear hf
      go_wp2_with fail
      refine (markText_any _ (by omega) (by omega) _).mono ?_
      rintro e w1 ⟨rfl, hb⟩
      have t1 := hT.below hb
      have e1 := hB.on hb
      clear hb
      clear c0 f0 c1 f1 c2 f2
      obtain ⟨b', off', e, _, _, _, hf⟩ := t1.at_ hx0
      cases e
      have c0 : w1.cell? ⟨b, off + q * 3, none⟩ = some (.string (⟨x.f, x.n, x.b⟩ : Msg).f) := (hf 0 _ rfl).1
      have f0 : w1.frozen? ⟨b, off + q * 3, none⟩ = false := (hf 0 _ rfl).2
      have c1 : w1.cell? ⟨b, off + q * 3 + 1, none⟩ = some (.int .i64 (⟨x.f, x.n, x.b⟩ : Msg).n) := (hf 1 _ rfl).1
      have f1 : w1.frozen? ⟨b, off + q * 3 + 1, none⟩ = false := (hf 1 _ rfl).2
      have c2 : w1.cell? ⟨b, off + q * 3 + 2, none⟩ = some (.string (⟨x.f, x.n, x.b⟩ : Msg).b) := (hf 2 _ rfl).1
      have f2 : w1.frozen? ⟨b, off + q * 3 + 2, none⟩ = false := (hf 2 _ rfl).2
      clear hf
      go_wp2_with fail
      refine (markText_any _ (by omega) (by omega) _).mono ?_
      rintro e w2 ⟨rfl, hb⟩
      have s0 := Sl.set1 (i := q) (j := 0) (y := (⟨mt (kk), x.n, x.b⟩ : Msg)) (u := .string (mt (kk))) t1 hx0 Msg.len (by omega) rfl
      have x0 := (List.getElem?_set_self (a := (⟨mt (kk), x.n, x.b⟩ : Msg)) (List.getElem?_eq_some_iff.1 hx0).1)
      have g0 := Fr.setCell e1 (p := ⟨b, off + q * 3 + 0, none⟩) ⟨hlo, hhi⟩ (.string (mt (kk)))
      have s1 := Sl.set1 (i := q) (j := 1) (y := (⟨mt (kk), kk + 1, x.b⟩ : Msg)) (u := .int .i64 (kk + 1)) s0 x0 Msg.len (by omega) rfl
      have x1 := (List.getElem?_set_self (a := (⟨mt (kk), kk + 1, x.b⟩ : Msg)) (List.getElem?_eq_some_iff.1 x0).1)
      have g1 := Fr.setCell g0 (p := ⟨b, off + q * 3 + 1, none⟩) ⟨hlo, hhi⟩ (.int .i64 (kk + 1))
      have t2 := s1.below hb
      have e2 := g1.on hb
      clear hb
      clear c0 f0 c1 f1 c2 f2
      obtain ⟨b', off', e, _, _, _, hf⟩ := t2.at_ x1
      cases e
      have c0 : w2.cell? ⟨b, off + q * 3, none⟩ = some (.string (⟨mt (kk), kk + 1, x.b⟩ : Msg).f) := (hf 0 _ rfl).1
      have f0 : w2.frozen? ⟨b, off + q * 3, none⟩ = false := (hf 0 _ rfl).2
      have c1 : w2.cell? ⟨b, off + q * 3 + 1, none⟩ = some (.int .i64 (⟨mt (kk), kk + 1, x.b⟩ : Msg).n) := (hf 1 _ rfl).1
      have f1 : w2.frozen? ⟨b, off + q * 3 + 1, none⟩ = false := (hf 1 _ rfl).2
      have c2 : w2.cell? ⟨b, off + q * 3 + 2, none⟩ = some (.string (⟨mt (kk), kk + 1, x.b⟩ : Msg).b) := (hf 2 _ rfl).1
      have f2 : w2.frozen? ⟨b, off + q * 3 + 2, none⟩ = false := (hf 2 _ rfl).2
      clear hf
      go_wp2
      go_roundw
      case rel =>
        have s2 := Sl.set1 (i := q) (j := 2) (y := (⟨mt (kk), kk + 1, mt (kk + 1 + 1)⟩ : Msg)) (u := .string (mt (kk + 1 + 1))) t2 x1 Msg.len (by omega) rfl
        have x2 := (List.getElem?_set_self (a := (⟨mt (kk), kk + 1, mt (kk + 1 + 1)⟩ : Msg)) (List.getElem?_eq_some_iff.1 x1).1)
        have g2 := Fr.setCell e2 (p := ⟨b, off + q * 3 + 2, none⟩) ⟨hlo, hhi⟩ (.string (mt (kk + 1 + 1)))
        refine ⟨q + 1, kk + 3, by omega, by go_num, by go_num, by omega, by omega, Lib.hid (by have := HK.out; omega), ?_, g2⟩
        have hL := HL.out
        rw [← hL, ← HK.out]
        have hS4 := s2
        simp only [List.set_set] at hS4
        exact hS4
      case measure => simp [intOf]; omega
    · have hqe : q = l.length := by omega
      subst hqe
      have hk2 : kk = k + 3 * l.length := HK.out
      subst hk2
      go_wp2
      go_ret
      refine ⟨rfl, ?_, hB⟩
      simpa using hT
set_option maxHeartbeats 4000000 in
theorem heldMessageS_any (A : Option Addr) (c lo hi n : Nat) (k : Int) (w : World) (hl : n ≤ 1048576) (hk0 : 1 ≤ k) (hk1 : k ≤ 50000000) (hS : Msgs w lo hi A (Msg.mkL k n)) :
    Calls Tryz.prog 167 #[.slice A n c, .int .i64 k] w (RV w (.int .i64 (k + 3 * n))) := by
  go_enter Tryz.func167, Tryz.ntmps167
  go_wp2
  go_loopw [1, 5] (fun v i wr => ∃ (q : Nat) (kk : Int), q ≤ n ∧ i = .int .i64 q ∧ v = .int .i64 kk ∧ 1 ≤ kk ∧ kk ≤ k + 3 * q ∧ Hid (kk = k + 3 * q) ∧ Below w.heap.size w wr) (fun _ i _ => n - (intOf i).toNat)
  case atStart => exact ⟨0, k, Nat.zero_le _, rfl, rfl, hk0, by omega, Lib.hid (by omega), Below.refl _ _⟩
  case round =>
    obtain ⟨q, kk, hq, rfl, rfl, hkk0, hkk1, HK, hB⟩ := hrel
    by_cases hlt : q < n
    · have hx0 := Msg.mkL_at (k := k) hlt
      rw [← HK.out] at hx0
      obtain ⟨b, off, rfl, _, _, _, hf⟩ := (hS.below hB).at_ hx0
      have c0 : wr.cell? ⟨b, off + q * 3, none⟩ = some (.string (mt (kk))) := (hf 0 _ rfl).1
      have c1 : wr.cell? ⟨b, off + q * 3 + 1, none⟩ = some (.int .i64 (kk + 1)) := (hf 1 _ rfl).1
      have c2 : wr.cell? ⟨b, off + q * 3 + 2, none⟩ = some (.string (mt (kk + 1 + 1))) := (hf 2 _ rfl).1
      clear hf hx0
      have hBc := hB
      clear hB
      go_wp2_with fail
      have hcls : ∀ w', Below wr.heap.size wr w' → w'.cell? ⟨b, off + q * 3, none⟩ = some (.string (mt (kk))) := fun w' hw' => keep hw' c0
      have HM : ∀ W : World, Calls Tryz.prog 95 #[.int .i64 (kk)] W (RV W (.string (mt (kk)))) := fun W => markText_any _ (by omega) (by omega) W
      refine wp_region_quiet (C := fun w' => Below wr.heap.size wr w') (by kernel_rfl) (by kernel_rfl) ((Below.refl _ _).drew) ?_
      dsimp only [Array.toList]
      iterate 8
        with_reducible refine wpQuiet_step (fun K hK => ?_)
        go_simp
        first
          | (refine hK _ ?_; clear hK K)
          | (apply Exists.intro
             refine ⟨fun w' hw' => ?_, hK _ ?_⟩
             · have z0 := hcls w' hw'
               go_simp
               first
                 | rfl
                 | (refine (HM _).mono ?_; rintro e w1 ⟨rfl, hb⟩; exact ⟨rfl, hw'.trans (hb.mono hw'.size)⟩)
             clear hK K)
      refine wpQuiet_nil ?_
      intro W2 hW
      clear hcls HM
      replace c0 := keep hW c0
      replace c1 := keep hW c1
      replace c2 := keep hW c2
      replace hBc := Below.on' hBc hW
      clear hW
      go_wp2_with fail
      have hcls : ∀ w', Below W2.heap.size W2 w' → w'.cell? ⟨b, off + q * 3 + 2, none⟩ = some (.string (mt (kk + 1 + 1))) := fun w' hw' => keep hw' c2
      have HM : ∀ W : World, Calls Tryz.prog 95 #[.int .i64 (kk + 1 + 1)] W (RV W (.string (mt (kk + 1 + 1)))) := fun W => markText_any _ (by omega) (by omega) W
      refine wp_region_quiet (C := fun w' => Below W2.heap.size W2 w') (by kernel_rfl) (by kernel_rfl) ((Below.refl _ _).drew) ?_
      dsimp only [Array.toList]
      iterate 8
        with_reducible refine wpQuiet_step (fun K hK => ?_)
        go_simp
        first
          | (refine hK _ ?_; clear hK K)
          | (apply Exists.intro
             refine ⟨fun w' hw' => ?_, hK _ ?_⟩
             · have z0 := hcls w' hw'
               go_simp
               first
                 | rfl
                 | (refine (HM _).mono ?_; rintro e w1 ⟨rfl, hb⟩; exact ⟨rfl, hw'.trans (hb.mono hw'.size)⟩)
             clear hK K)
      refine wpQuiet_nil ?_
      intro W3 hW
      clear hcls HM
      replace c0 := keep hW c0
      replace c1 := keep hW c1
      replace c2 := keep hW c2
      replace hBc := Below.on' hBc hW
      clear hW
      go_wp2
      go_roundw
      case rel => exact ⟨q + 1, kk + 3, by omega, by go_num, by go_num, by omega, by omega, Lib.hid (by have := HK.out; omega), by go_grown⟩
      case measure => simp [intOf]; omega
    · have hqe : q = n := by omega
      subst hqe
      have hk2 : kk = k + 3 * q := HK.out
      subst hk2
      go_wp2
      go_ret
      exact ⟨rfl, hB⟩
end Go.Proofs.YtianabfehonliaaGreatDoor
namespace Go.Proofs.YtianabfehonliaaGreatDoor
open Go.RowKit

def Msg.eqB (x y : Msg) : Bool := decide (x.f.toList = y.f.toList) && decide (x.n = y.n) && decide (x.b.toList = y.b.toList)
theorem Msg.eqB_comm (x y : Msg) : Msg.eqB x y = Msg.eqB y x := by unfold Msg.eqB; simp only [eq_comm]
theorem Msg.eqB_iff {x y : Msg} : Msg.eqB x y = true ↔ x = y := by
  cases x; cases y
  simp only [Msg.eqB, Bool.and_eq_true, decide_eq_true_eq, Msg.mk.injEq]
  constructor
  · intro h
    simp only [and_assoc] at h
    obtain ⟨h0, h1, h2⟩ := h
    exact ⟨toList_inj h0, h1, toList_inj h2⟩
  · intro h
    obtain ⟨h0, h1, h2⟩ := h
    subst h0 h1 h2
    simp
theorem Msg.eql (x y : Msg) (w : World) : (binOp .eql 66 (.agg #[.string x.f, .int .i64 x.n, .string x.b]) (.agg #[.string y.f, .int .i64 y.n, .string y.b])).run Tryz.prog w = .ok (.bool (Msg.eqB x y)) w := by
  go_simp
  by_cases q0 : x.f.toList = y.f.toList <;> by_cases q1 : x.n = y.n <;> by_cases q2 : x.b.toList = y.b.toList <;> simp [Msg.eqB, q0, q1, q2]
theorem Msg.one (x : Msg) : ∀ u ∈ x.cells, u.oneCell' = true := by
  intro u hu
  simp [Msg.cells] at hu
  rcases hu with rfl | rfl | rfl <;> rfl
/-- The predicate p, as the function value g with what it captured. -/
def Msg.Pred (g : FuncId) (lb : Array Value) (p : Msg → Bool) (lo hi : Nat) (l : List Msg) (w : World) : Prop :=
  ∀ (W : World) (x : Msg), x ∈ l → Fr lo hi w W → Calls Tryz.prog g (#[.agg #[.string x.f, .int .i64 x.n, .string x.b]] ++ lb) W fun e w' => e = .returned (.bool (p x)) ∧ Below W.heap.size W w'
set_option maxHeartbeats 1000000 in
theorem Msg.IndexFunc_any (g : FuncId) (lb : Array Value) (p : Msg → Bool) (A : Option Addr) (c lo hi lo' hi' : Nat) (l : List Msg) (w : World) (eg : Enters g) (hl : l.length ≤ 1048576) (hS : Msgs w lo hi A l) (hp : Msg.Pred g lb p lo' hi' l w) :
    Calls Tryz.prog 177 #[.slice A l.length c, .func (.func g) #[] lb] w (RV w (.int .i64 (idxG p l 0))) := by
  have eg' : ∀ args w, (callFunc g args).run Tryz.prog w = .ok (.enter g args) w := eg
  go_enter Tryz.func177, Tryz.ntmps177
  go_wp2_with fail
  go_loopw [8] (fun i wr => ∃ k : Nat, k ≤ l.length ∧ i = .int .i64 k ∧ Hid (idxG p (l.drop k) k = idxG p l 0) ∧ Below w.heap.size w wr) (fun i _ => l.length - (intOf i).toNat)
  case atStart => exact ⟨0, Nat.zero_le _, rfl, rfl, Below.refl _ _⟩
  case round =>
    obtain ⟨k, hk, rfl, HF, hB⟩ := hrel
    by_cases hlt : k < l.length
    · obtain ⟨x, hx, hx2⟩ := get_lt hlt
      have HC := Lib.hid (idxG_step (p := p) hx)
      obtain ⟨b, off, rfl, _, _, _, hf⟩ := (hS.below hB).at_ hx
      have c0 : wr.cell? ⟨b, off + k * 3, none⟩ = some (.string x.f) := (hf 0 _ rfl).1
      have c1 : wr.cell? ⟨b, off + k * 3 + 1, none⟩ = some (.int .i64 x.n) := (hf 1 _ rfl).1
      have c2 : wr.cell? ⟨b, off + k * 3 + 2, none⟩ = some (.string x.b) := (hf 2 _ rfl).1
      have hcall := hp wr x hx2 ⟨hB.os, hB.tape, hB.output, hB.size, fun b hb _ => hB.block b hb⟩
      clear hf hx hx2
      cases hq : p x with
      | true =>
        have HQ := Lib.hid (HC.out.trans (if_pos hq))
        rw [hq] at hcall
        clear HC hq
        go_wp2_with (go_at_fn g; refine hcall.mono ?_; rintro e w1 ⟨rfl, hb⟩)
        go_ret
        exact RV.mk (by rw [← HF.out, HQ.out]; rfl) (Below.on' hB hb)
      | false =>
        have HQ := Lib.hid (HC.out.trans (if_neg (by rw [hq]; exact Bool.false_ne_true)))
        rw [hq] at hcall
        clear HC hq
        go_wp2_with (go_at_fn g; refine hcall.mono ?_; rintro e w1 ⟨rfl, hb⟩)
        have hB1 := Below.on' hB hb
        go_roundw
        case rel => exact ⟨k + 1, by omega, by go_num, Lib.hid (HQ.out.symm.trans HF.out), hB1⟩
        case measure => simp [intOf]; omega
    · have hd : l.drop k = [] := List.drop_of_length_le (by omega)
      have HE : Hid ((-1 : Int) = idxG p l 0) := Lib.hid (by have := HF.out; rw [hd] at this; exact this)
      clear hd HF
      go_wp2
      go_ret
      exact RV.mk (by rw [← HE.out]; rfl) hB
set_option maxRecDepth 100000 in
set_option maxHeartbeats 4000000 in
theorem Msg.Index_any (A : Option Addr) (c : Nat) (l : List Msg) (e : Msg) (w : World) (hl : l.length ≤ 1048576) (hS : Msgs w 0 w.heap.size A l) :
    Calls Tryz.prog 179 #[.slice A l.length c, .agg #[.string e.f, .int .i64 e.n, .string e.b]] w (RV w (.int .i64 (idxG (fun y => Msg.eqB e y) l 0))) := by
  have hbox : ∀ W, Below (w.alloc (Obj.cells #[.string e.f, .int .i64 e.n, .string e.b] 66)).heap.size (w.alloc (Obj.cells #[.string e.f, .int .i64 e.n, .string e.b] 66)) W → W.cell? ⟨w.heap.size, 0, none⟩ = some (.string e.f) ∧ W.cell? ⟨w.heap.size, 1, none⟩ = some (.int .i64 e.n) ∧ W.cell? ⟨w.heap.size, 2, none⟩ = some (.string e.b) := fun W hb =>
    have H := fun t u hu => keep hb (new_cells (E := Msg.cells) w 66 e _ rfl t u hu)
    ⟨H 0 _ rfl, H 1 _ rfl, H 2 _ rfl⟩
  have hS0 := (hS.alloc (Obj.cells #[.string e.f, .int .i64 e.n, .string e.b] 66)).all
  go_enter Tryz.func179, Tryz.ntmps179
  go_wp2_with fail
  generalize hV : w.alloc (Obj.cells #[.string e.f, .int .i64 e.n, .string e.b] 66) = V at hbox hS0 ⊢
  have hBV : Below w.heap.size w V := by rw [← hV]; go_grown
  clear hV hS
  go_loopw [8] (fun i wr => ∃ k : Nat, k ≤ l.length ∧ i = .int .i64 k ∧ Hid (idxG (fun y => Msg.eqB e y) (l.drop k) k = idxG (fun y => Msg.eqB e y) l 0) ∧ Below V.heap.size V wr) (fun i _ => l.length - (intOf i).toNat)
  case atStart => exact ⟨0, Nat.zero_le _, rfl, rfl, Below.refl _ _⟩
  case round =>
    obtain ⟨k, hk, rfl, HF, hB⟩ := hrel
    by_cases hlt : k < l.length
    · obtain ⟨x, hx, _⟩ := get_lt hlt
      have HC := Lib.hid (idxG_step (p := fun y => Msg.eqB e y) hx)
      obtain ⟨b, off, rfl, _, _, _, hf⟩ := (hS0.below hB).at_ hx
      have c0 : wr.cell? ⟨b, off + k * 3, none⟩ = some (.string x.f) := (hf 0 _ rfl).1
      have c1 : wr.cell? ⟨b, off + k * 3 + 1, none⟩ = some (.int .i64 x.n) := (hf 1 _ rfl).1
      have c2 : wr.cell? ⟨b, off + k * 3 + 2, none⟩ = some (.string x.b) := (hf 2 _ rfl).1
      clear hf hx
      have hkk : (k : Int) < l.length := by omega
      have hcls : ∀ w', Below wr.heap.size wr w' → w'.cell? ⟨b, off + k * 3, none⟩ = some (.string x.f) ∧ w'.cell? ⟨b, off + k * 3 + 1, none⟩ = some (.int .i64 x.n) ∧ w'.cell? ⟨b, off + k * 3 + 2, none⟩ = some (.string x.b) ∧ w'.cell? ⟨w.heap.size, 0, none⟩ = some (.string e.f) ∧ w'.cell? ⟨w.heap.size, 1, none⟩ = some (.int .i64 e.n) ∧ w'.cell? ⟨w.heap.size, 2, none⟩ = some (.string e.b) :=
        fun w' h => ⟨keep h c0, keep h c1, keep h c2, hbox w' (Below.on' hB h)⟩
      clear c0 c1 c2
      have heq := Msg.eql e x
      go_wp2_with fail
      refine wp_region_quiet (C := fun w' => Below wr.heap.size wr w') (by kernel_rfl) (by kernel_rfl) ((Below.refl _ _).drew) ?_
      dsimp only [Array.toList]
      iterate 6
        with_reducible refine wpQuiet_step (fun K hK => ?_)
        go_simp
        first
          | (refine hK _ ?_; clear hK K)
          | (apply Exists.intro
             refine ⟨fun w' hw' => ?_, hK _ ?_⟩
             · obtain ⟨z0, z1, z2, z3, z4, z5⟩ := hcls w' hw'
               have hqq := heq w'
               first
                 | (go_simp; rfl)
                 | (simp only [Sem.run] at hqq; exact hqq)
             clear hK K)
      refine wpQuiet_nil ?_
      intro W2 hW2
      have hB2 : Below V.heap.size V W2 := Below.on' hB hW2
      clear hcls hW2 hB heq
      by_cases hq : Msg.eqB e x = true
      · have HQ := Lib.hid (HC.out.trans (if_pos hq))
        clear HC
        rw [hq]
        go_wp2
        go_ret
        exact RV.mk (by rw [← HF.out, HQ.out]; rfl) (hBV.trans (hB2.mono hBV.size))
      · have HQ := Lib.hid (HC.out.trans (if_neg hq))
        have hq : Msg.eqB e x = false := by simpa using hq
        clear HC
        rw [hq]
        go_wp2
        go_roundw
        case rel => exact ⟨k + 1, by omega, by go_num, Lib.hid (HQ.out.symm.trans HF.out), hB2⟩
        case measure => simp [intOf]; omega
    · have hd : l.drop k = [] := List.drop_of_length_le (by omega)
      have HE : Hid ((-1 : Int) = idxG (fun y => Msg.eqB e y) l 0) := Lib.hid (by have := HF.out; rw [hd] at this; exact this)
      clear hd HF
      go_wp2
      go_ret
      exact RV.mk (by rw [← HE.out]; rfl) (hBV.trans (hB.mono hBV.size))
set_option maxHeartbeats 1000000 in
theorem Msg.Contains_any (A : Option Addr) (c : Nat) (l : List Msg) (e : Msg) (w : World) (hl : l.length ≤ 1048576) (hS : Msgs w 0 w.heap.size A l) :
    Calls Tryz.prog 126 #[.slice A l.length c, .agg #[.string e.f, .int .i64 e.n, .string e.b]] w (RV w (.bool (l.any fun y => Msg.eqB e y))) := by
  have HM := Lib.hid (idxG_any (fun y => Msg.eqB e y) l)
  have hS0 := (hS.alloc (Obj.cells #[.string e.f, .int .i64 e.n, .string e.b] 66)).all
  go_enter Tryz.func126, Tryz.ntmps126
  go_wp2_with fail
  refine (Msg.Index_any A c l e _ hl hS0).mono ?_
  rintro e w1 ⟨rfl, hb⟩
  have hB : Below w.heap.size w w1 := Below.on' (by go_grown) hb
  go_wp2
  all_goals go_ret
  all_goals exact RV.mk (by rw [← HM.out]; first | rfl | (simp; done) | skip) hB
theorem Msg.Clone_any (Al : Option Addr) (cl : Nat) (l : List Msg) (w : World) (hll : l.length ≤ 1048576) (hSl : Msgs w 0 w.heap.size Al l) : Calls Tryz.prog 124 #[.slice Al l.length cl] w (RO1 Msg.cells 3 66 w l) := by
  obtain ⟨i0, hi0, hz0, hz1, hz2⟩ := info_parts Msg.info
  have qn : ∀ (w : World) (a : Option Addr) (n c n' c' : Nat), (binOp .eql 32 (.slice a n c) (.slice none n' c')).run Tryz.prog w = .ok (.bool a.isNone) w := fun w a n c n' c' => Lib.run_eql_slice_nil w _ _ a n c n' c' Tryz.underlying32
  cases Al with
  | none =>
    have hl0 := hSl.none_nil
    subst hl0
    go_enter Tryz.func124, Tryz.ntmps124
    go_wp2
    go_ret
    exact ⟨none, 0, rfl, Own.nil_, Below.refl _ _⟩
  | some ad =>
    go_enter Tryz.func124, Tryz.ntmps124
    go_wp2_with (at_builtin; refine wpList_append_all _ rfl (.tmp 5) (.tmp 6) _ rfl i0 _ _ Tryz.underlying32 hi0 hz0 hz1 hz2 rfl (by omega) Msg.len Msg.one (Own.empty w (Nat.le_refl _)) (hSl.alloc _) rfl rfl (by unfold maxLen; first | omega | (simp; omega)) (by first | omega | (simp; omega)) (by first | exact Nat.le_refl _ | (simp; done) | omega) ?_; intro A' c' w1 L hL hO hB; have hB1 : Below w.heap.size w w1 := Below.trans (by go_grown) hB)
    clear hi0 hz0 hz1 hz2 hB qn
    go_ret
    obtain rfl : L = l := hL.out
    exact ⟨A', c', rfl, hO, hB1⟩
end Go.Proofs.YtianabfehonliaaGreatDoor
namespace Go.Proofs.YtianabfehonliaaGreatDoor
open Go.RowKit

structure App where
  nm : ByteArray
  kd : Int
  nd : Int
  cw : Int
  st : Int
def App.cells (e : App) : List Value := [.string e.nm, .int .i64 e.kd, .int .i64 e.nd, .int .i64 e.cw, .int .i64 e.st]
theorem App.len (e : App) : e.cells.length = 5 := rfl
abbrev Apps (w : World) (lo hi : Nat) (A : Option Addr) (l : List App) : Prop := Sl App.cells 5 w lo hi A l

theorem toAppliance_any (nm : ByteArray) (kd : Int) (nd : Int) (cw : Int) (st : Int) (w : World) : Calls Tryz.prog 159 #[.agg #[.string nm, .int .i64 kd, .int .i64 nd, .int .i64 cw, .int .i64 st]] w (RV w (.agg #[.string nm, .int .i64 kd, .int .i64 nd, .int .i64 cw, .int .i64 st])) := by
  go_enter Tryz.func159, Tryz.ntmps159
  go_wp2
  go_returns
  exact RV.mk rfl (by go_grown)
theorem eqAppliance_same (nm : ByteArray) (kd : Int) (nd : Int) (cw : Int) (st : Int) (w : World) : Calls Tryz.prog 93 #[.agg #[.string nm, .int .i64 kd, .int .i64 nd, .int .i64 cw, .int .i64 st], .agg #[.string nm, .int .i64 kd, .int .i64 nd, .int .i64 cw, .int .i64 st]] w (RV w (.bool true)) := by
  go_enter Tryz.func93, Tryz.ntmps93
  go_wp2
  go_ret
  exact RV.mk rfl (by go_grown)
def szApp (nm : ByteArray) (left : Int) : Int := (if left - nm.size < 0 then -1 else left - nm.size)
theorem szAppliance_any (nm : ByteArray) (kd : Int) (nd : Int) (cw : Int) (st : Int) (left : Int) (hnm : nm.size ≤ maxLen) (h0 : 0 ≤ left) (h1 : left ≤ 1048576) (w : World) :
    Calls Tryz.prog 155 #[.agg #[.string nm, .int .i64 kd, .int .i64 nd, .int .i64 cw, .int .i64 st], .int .i64 left] w (RV w (.int .i64 (szApp nm left))) := by
  unfold maxLen at hnm
  go_enter Tryz.func155, Tryz.ntmps155
  go_wp2
  all_goals go_ret
  all_goals exact RV.mk (vint (by unfold szApp; (repeat' split) <;> omega)) (by go_grown)
theorem szApp_pos (nm : ByteArray) (left : Int) : szApp nm left < 0 ∨ (szApp nm left = left - nm.size ∧ 0 ≤ left - nm.size) := by
  unfold szApp; (repeat' split) <;> omega
set_option maxHeartbeats 400000 in
theorem szApplianceS_any (A : Option Addr) (c : Nat) (l : List App) (left : Int) (w : World) (hl : l.length ≤ maxLen) (hm : ∀ x ∈ l, x.nm.size ≤ maxLen) (hS : Apps w 0 w.heap.size A l) (h0 : 0 ≤ left) (h1 : left ≤ 1048576) :
    Calls Tryz.prog 79 #[.slice A l.length c, .int .i64 left] w fun e w' => ∃ r : Int, e = .returned (.int .i64 r) ∧ r ≤ left ∧ (0 ≤ r → l.length ≤ 1048576 ∧ ∀ x ∈ l, x.nm.size ≤ 1048576) ∧ Below w.heap.size w w' := by
  unfold maxLen at hl
  go_enter Tryz.func79, Tryz.ntmps79
  by_cases hln : (l.length : Int) ≤ left
  · go_wp2
    go_loopw [1, 5] (fun v i wr => ∃ (k : Nat) (q : Int), k ≤ l.length ∧ i = .int .i64 k ∧ v = .int .i64 q ∧ 0 ≤ q ∧ q ≤ left ∧ (∀ x ∈ l.take k, x.nm.size ≤ 1048576) ∧ Below w.heap.size w wr) (fun _ i _ => l.length - (intOf i).toNat)
    case atStart => exact ⟨0, _, Nat.zero_le _, rfl, rfl, by omega, by omega, by simp, Below.refl _ _⟩
    case round =>
      obtain ⟨k, q, hk, rfl, rfl, hq0, hq1, hx, hB⟩ := hrel
      by_cases hlt : k < l.length
      · obtain ⟨x, hx1, hx2⟩ := get_lt hlt
        obtain ⟨b, off, rfl, _, _, _, hf⟩ := (hS.below hB).at_ hx1
        have c0 : wr.cell? ⟨b, off + k * 5, none⟩ = some (.string x.nm) := (hf 0 _ rfl).1
        have c1 : wr.cell? ⟨b, off + k * 5 + 1, none⟩ = some (.int .i64 x.kd) := (hf 1 _ rfl).1
        have c2 : wr.cell? ⟨b, off + k * 5 + 2, none⟩ = some (.int .i64 x.nd) := (hf 2 _ rfl).1
        have c3 : wr.cell? ⟨b, off + k * 5 + 3, none⟩ = some (.int .i64 x.cw) := (hf 3 _ rfl).1
        have c4 : wr.cell? ⟨b, off + k * 5 + 4, none⟩ = some (.int .i64 x.st) := (hf 4 _ rfl).1
        have HX := Lib.hid hx1
        clear hf hx1
        go_wp2_with fail
        have hsz := hm x hx2
        have hsp := szApp_pos x.nm q
        refine (szAppliance_any _ _ _ _ _ _ hsz (by omega) (by omega) _).mono ?_
        rintro e w1 ⟨rfl, hb⟩
        have hB1 : Below w.heap.size w w1 := Below.on' (by go_grown) hb
        rcases hsp with hq | ⟨hq, hq2⟩
        · go_wp2
          go_ret
          exact ⟨_, rfl, by omega, by omega, hB1⟩
        · have hx' : ∀ x ∈ l.take (k + 1), x.nm.size ≤ 1048576 := by
            intro y hy
            rw [take_snoc HX.out, List.mem_append] at hy
            rcases hy with hy | hy
            · exact hx y hy
            · obtain rfl := List.mem_singleton.1 hy
              omega
          have hq3 : ¬ szApp x.nm q < 0 := by omega
          have hq4 : szApp x.nm q ≤ left := by omega
          clear hq
          go_wp2
          go_roundw
          case rel => exact ⟨k + 1, _, by omega, by go_num, rfl, by omega, by omega, hx', hB1⟩
          case measure => simp [intOf]; omega
      · go_wp2
        go_ret
        exact ⟨_, rfl, hq1, fun _ => ⟨by omega, fun y hy => hx y (by rw [List.take_of_length_le (by omega)]; exact hy)⟩, hB⟩
  · go_wp2
    go_ret
    exact ⟨_, rfl, by omega, by omega, Below.refl _ _⟩
theorem App.info : (Tryz.prog.info? 90).map (fun i => (i.zero, i.size, i.bytes)) = some (some (.agg #[.string ⟨#[]⟩, .int .i64 0, .int .i64 0, .int .i64 0, .int .i64 0]), 5, 48) := by kernel_rfl
set_option maxHeartbeats 800000 in
theorem toApplianceS_any (A : Option Addr) (c : Nat) (l : List App) (w : World) (hl : l.length ≤ 1048576) (hS : Apps w 0 w.heap.size A l) :
    Calls Tryz.prog 85 #[.slice A l.length c] w fun e w' => ∃ g, e = .returned (.slice (some ⟨g, 0, none⟩) l.length l.length) ∧ Apps w' w.heap.size w'.heap.size (some ⟨g, 0, none⟩) l ∧ Below w.heap.size w w' := by
  obtain ⟨i0, hi0, hz0, hz1, hz2⟩ := info_parts App.info
  go_enter Tryz.func85, Tryz.ntmps85
  go_wp2_with (at_make; refine wpList_make_full _ rfl (.tmp 6) (.tmp 6) _ rfl w.heap.size 90 i0 _ 5 Tryz.underlying31 hi0 hz0 hz1 .i64 .i64 _ _ l.length rfl rfl rfl rfl (by rw [hz2]; omega) (by unfold maxLen; omega) (Nat.le_refl _) ?_; intro w1 hown hg)
  have hR : Room w1 w.heap.size 90 (l.length * 5) := Room.of_own hown
  have hB1 : Below w.heap.size w w1 := (Below.refl _ _).grown hg (Nat.le_refl _) (by simp)
  clear hown hg hi0 hz0 hz1 hz2
  go_loopw [4] (fun i wr => ∃ q : Nat, q ≤ l.length ∧ i = .int .i64 q ∧ Room wr w.heap.size 90 (l.length * 5) ∧ Apps wr w.heap.size wr.heap.size (some ⟨w.heap.size, 0, none⟩) (l.take q) ∧ Below w.heap.size w wr) (fun i _ => l.length - (intOf i).toNat)
  case atStart => exact ⟨0, Nat.zero_le _, rfl, hR, by simpa using Sl.nil_, hB1⟩
  case round =>
    obtain ⟨q, hq, rfl, hR, hT, hB⟩ := hrel
    by_cases hlt : q < l.length
    · obtain ⟨x, hx1, hx2⟩ := get_lt hlt
      obtain ⟨b, off, rfl, _, _, _, hf⟩ := (hS.below hB).at_ hx1
      have c0 : wr.cell? ⟨b, off + q * 5, none⟩ = some (.string x.nm) := (hf 0 _ rfl).1
      have c1 : wr.cell? ⟨b, off + q * 5 + 1, none⟩ = some (.int .i64 x.kd) := (hf 1 _ rfl).1
      have c2 : wr.cell? ⟨b, off + q * 5 + 2, none⟩ = some (.int .i64 x.nd) := (hf 2 _ rfl).1
      have c3 : wr.cell? ⟨b, off + q * 5 + 3, none⟩ = some (.int .i64 x.cw) := (hf 3 _ rfl).1
      have c4 : wr.cell? ⟨b, off + q * 5 + 4, none⟩ = some (.int .i64 x.st) := (hf 4 _ rfl).1
      have HX := Lib.hid hx1
      clear hf hx1
      go_wp2_with fail
      refine (toAppliance_any _ _ _ _ _ _).mono ?_
      rintro e w2 ⟨rfl, hb⟩
      have hB2 : Below w.heap.size w w2 := Below.on' (by go_grown) hb
      have hR2 := hR.below hb
      have hT2 := (hT.below hb).mono (Nat.le_refl _) hb.size (Nat.le_refl _)
      have hg2 := hR2.lt
      obtain ⟨u0, d0⟩ := hR2.cell (i := q * 5) (by omega)
      have f0 := hR2.frozen (q * 5)
      obtain ⟨u1, d1⟩ := hR2.cell (i := q * 5 + 1) (by omega)
      have f1 := hR2.frozen (q * 5 + 1)
      obtain ⟨u2, d2⟩ := hR2.cell (i := q * 5 + 2) (by omega)
      have f2 := hR2.frozen (q * 5 + 2)
      obtain ⟨u3, d3⟩ := hR2.cell (i := q * 5 + 3) (by omega)
      have f3 := hR2.frozen (q * 5 + 3)
      obtain ⟨u4, d4⟩ := hR2.cell (i := q * 5 + 4) (by omega)
      have f4 := hR2.frozen (q * 5 + 4)
      clear hb hR hT c0 c1 c2 c3 c4
      go_wp2
      go_roundw
      case rel =>
        have hP := Sl.push_cells hT2 HX.out App.len (Nat.le_refl _) hg2 (Nat.le_refl _) hR2 (by omega)
        refine ⟨q + 1, by omega, by go_num, hR2.setCells w.heap.size (q * 5) (x.cells), ?_, by go_grown⟩
        exact hP.mono (Nat.le_refl _) (by simp [World.setCell]) (Nat.le_refl _)
      case measure => simp [intOf]; omega
    · go_wp2
      go_ret
      refine ⟨w.heap.size, rfl, ?_, hB⟩
      have : l.take q = l := List.take_of_length_le (by omega)
      rw [this] at hT
      exact hT
set_option maxRecDepth 100000 in
set_option maxHeartbeats 800000 in
theorem eqApplianceS_same (A A' : Option Addr) (c c' lo hi lo' hi' : Nat) (l : List App) (w : World) (hl : l.length ≤ 1048576) (hS : Apps w lo hi A l) (hS' : Apps w lo' hi' A' l) :
    Calls Tryz.prog 20 #[.slice A l.length c, .slice A' l.length c'] w (RV w (.bool true)) := by
  go_enter Tryz.func20, Tryz.ntmps20
  go_wp2
  go_loopw [5] (fun i wr => ∃ q : Nat, q ≤ l.length ∧ i = .int .i64 q ∧ Below w.heap.size w wr) (fun i _ => l.length - (intOf i).toNat)
  case atStart => exact ⟨0, Nat.zero_le _, rfl, Below.refl _ _⟩
  case round =>
    obtain ⟨q, hq, rfl, hB⟩ := hrel
    by_cases hlt : q < l.length
    · obtain ⟨x, hx1, hx2⟩ := get_lt hlt
      obtain ⟨b, off, rfl, _, _, _, hf⟩ := (hS.below hB).at_ hx1
      have c0 : wr.cell? ⟨b, off + q * 5, none⟩ = some (.string x.nm) := (hf 0 _ rfl).1
      have c1 : wr.cell? ⟨b, off + q * 5 + 1, none⟩ = some (.int .i64 x.kd) := (hf 1 _ rfl).1
      have c2 : wr.cell? ⟨b, off + q * 5 + 2, none⟩ = some (.int .i64 x.nd) := (hf 2 _ rfl).1
      have c3 : wr.cell? ⟨b, off + q * 5 + 3, none⟩ = some (.int .i64 x.cw) := (hf 3 _ rfl).1
      have c4 : wr.cell? ⟨b, off + q * 5 + 4, none⟩ = some (.int .i64 x.st) := (hf 4 _ rfl).1
      clear hf
      obtain ⟨b', off', rfl, _, _, _, hf⟩ := (hS'.below hB).at_ hx1
      have d0 : wr.cell? ⟨b', off' + q * 5, none⟩ = some (.string x.nm) := (hf 0 _ rfl).1
      have d1 : wr.cell? ⟨b', off' + q * 5 + 1, none⟩ = some (.int .i64 x.kd) := (hf 1 _ rfl).1
      have d2 : wr.cell? ⟨b', off' + q * 5 + 2, none⟩ = some (.int .i64 x.nd) := (hf 2 _ rfl).1
      have d3 : wr.cell? ⟨b', off' + q * 5 + 3, none⟩ = some (.int .i64 x.cw) := (hf 3 _ rfl).1
      have d4 : wr.cell? ⟨b', off' + q * 5 + 4, none⟩ = some (.int .i64 x.st) := (hf 4 _ rfl).1
      clear hf hx1
      have hq0 : (0 : Int) ≤ (q : Int) := by omega
      have hq1 : (q : Int) < (l.length : Int) := by omega
      go_wp2_with fail
      go_still_tail 8, (by kernel_rfl)
      change wpList _ _ _ _ _ wr.drew
      generalize hw2 : wr.drew = w2
      have hB2 : Below w.heap.size w w2 := by rw [← hw2]; exact hB.drew
      clear hw2
      go_wp2_with fail
      refine (eqAppliance_same _ _ _ _ _ _).mono ?_
      rintro e w3 ⟨rfl, hb⟩
      have hB3 : Below w.heap.size w w3 := Below.on' (by go_grown) hb
      go_wp2
      go_roundw
      case rel => exact ⟨q + 1, by omega, by go_num, hB3⟩
      case measure => simp [intOf]; omega
    · go_wp2
      go_ret
      exact RV.mk rfl hB
end Go.Proofs.YtianabfehonliaaGreatDoor
namespace Go.Proofs.YtianabfehonliaaGreatDoor
open Go.ChangeShapes Go.WideShapes Go.ChangeAt Go.RowKit Go.Joins Go.Deep

section
variable {H : Type} {enc : TypeId × Value → H} {W : World}
theorem App.rd (n : Nat) (cs' : List Value) (y : DataW H × List MemPlace) (hl : cs'.length = 5) (h : DataW.trod enc Tryz.prog W 0 (fun _ => true) true n 158 cs' = some y) :
    ∃ x : App, x.cells = cs' ∧ (x.nm.size ≤ maxLen) := by
  match cs', hl with
  | [c0, c1, c2, c3, c4], _ =>
    obtain ⟨xs, m, _, hx, _, hlen, hg⟩ := DataW.trod_struct Tryz.underlying158 h
    match xs, hlen with
    | [y0, y1, y2, y3, y4], _ =>
      have g0 : DataW.trod enc Tryz.prog W 0 (fun _ => true) true m 9 (List.take (Tryz.prog.cellsOf 9) (List.drop 0 [c0, c1, c2, c3, c4])) = some y0 := hg 0 _ rfl
      rw [show Tryz.prog.cellsOf 9 = 1 from by kernel_rfl] at g0
      have g1 : DataW.trod enc Tryz.prog W 0 (fun _ => true) true m 3 (List.take (Tryz.prog.cellsOf 3) (List.drop 1 [c0, c1, c2, c3, c4])) = some y1 := hg 1 _ rfl
      rw [show Tryz.prog.cellsOf 3 = 1 from by kernel_rfl] at g1
      have g2 : DataW.trod enc Tryz.prog W 0 (fun _ => true) true m 3 (List.take (Tryz.prog.cellsOf 3) (List.drop 2 [c0, c1, c2, c3, c4])) = some y2 := hg 2 _ rfl
      rw [show Tryz.prog.cellsOf 3 = 1 from by kernel_rfl] at g2
      have g3 : DataW.trod enc Tryz.prog W 0 (fun _ => true) true m 3 (List.take (Tryz.prog.cellsOf 3) (List.drop 3 [c0, c1, c2, c3, c4])) = some y3 := hg 3 _ rfl
      rw [show Tryz.prog.cellsOf 3 = 1 from by kernel_rfl] at g3
      have g4 : DataW.trod enc Tryz.prog W 0 (fun _ => true) true m 3 (List.take (Tryz.prog.cellsOf 3) (List.drop 4 [c0, c1, c2, c3, c4])) = some y4 := hg 4 _ rfl
      rw [show Tryz.prog.cellsOf 3 = 1 from by kernel_rfl] at g4
      obtain ⟨nm, e0, _, hnm⟩ := DataW.trod_string Tryz.underlying9 g0
      obtain ⟨kd, e1, _, _⟩ := DataW.trod_int Tryz.underlying3 g1
      obtain ⟨nd, e2, _, _⟩ := DataW.trod_int Tryz.underlying3 g2
      obtain ⟨cw, e3, _, _⟩ := DataW.trod_int Tryz.underlying3 g3
      obtain ⟨st, e4, _, _⟩ := DataW.trod_int Tryz.underlying3 g4
      simp at e0 e1 e2 e3 e4
      subst e0 e1 e2 e3 e4
      exact ⟨⟨nm, kd, nd, cw, st⟩, rfl, hnm⟩
set_option maxRecDepth 100000 in
theorem App.opened {r : Reach} {b0 : Nat} {v : Value} {d : DataW H} {p : List MemPlace} (hv : Value.okWide Tryz.prog W r b0 158 v) (h : DataW.Trod enc Tryz.prog W 0 (fun _ => true) true 158 v d p) :
    ∃ x : App, v = .agg x.cells.toArray ∧ (x.nm.size ≤ maxLen) := by
  obtain ⟨cs, rfl, hsz⟩ := okWide_struct Tryz.underlying158 hv
  obtain ⟨fuel, hf⟩ := h
  have hC : Tryz.prog.cellsOf 158 = 5 := by kernel_rfl
  obtain ⟨x, hx, hg⟩ := App.rd fuel cs.toList _ (by rw [Array.length_toList]; exact hsz.trans hC) hf
  exact ⟨x, by rw [hx], hg⟩
set_option maxRecDepth 100000 in
theorem App.openedS {r : Reach} {b0 : Nat} {v : Value} {d : DataW H} {p : List MemPlace} (hv : Value.okWide Tryz.prog W r b0 22 v) (h : DataW.Trod enc Tryz.prog W 0 (fun _ => true) true 22 v d p) (hlt : ∀ x ∈ p, x.block < W.heap.size) (hnf : W.noneFrozen p) :
    ∃ (A : Option Addr) (c : Nat) (l : List App), v = .slice A l.length c ∧ l.length ≤ maxLen ∧ (∀ x ∈ l, x.nm.size ≤ maxLen) ∧ Apps W 0 W.heap.size A l :=
  open_sl (fun x => x.nm.size ≤ maxLen) Tryz.underlying22 (by kernel_rfl) (by omega) App.len (fun n cs' y hl h => App.rd n cs' y hl h) hv h hlt hnf
end
end Go.Proofs.YtianabfehonliaaGreatDoor
namespace Go.Proofs.YtianabfehonliaaGreatDoor
open Go.RowKit

def App.mk1 (k : Int) : App := ⟨mt (k), k + 1, k + 1 + 1, k + 1 + 1 + 1, k + 1 + 1 + 1 + 1⟩
def App.mkL (k : Int) : Nat → List App
  | 0 => []
  | n + 1 => App.mkL k n ++ [App.mk1 (k + 5 * n)]
theorem App.mkL_len (k : Int) : ∀ n, (App.mkL k n).length = n
  | 0 => rfl
  | n + 1 => by simp [App.mkL, App.mkL_len k n]
theorem App.mkL_at {k : Int} : ∀ {n q : Nat}, q < n → (App.mkL k n)[q]? = some (App.mk1 (k + 5 * q))
  | 0, q, h => by omega
  | n + 1, q, h => by
    rw [App.mkL]
    by_cases hq : q < n
    · rw [List.getElem?_append_left (by rw [App.mkL_len]; exact hq)]; exact App.mkL_at hq
    · obtain rfl : q = n := by omega
      rw [List.getElem?_append_right (by rw [App.mkL_len]; omega), App.mkL_len]; simp
theorem App.mkL_set {k : Int} {l : List App} {q : Nat} {x : App} (hx : l[q]? = some x) : (App.mkL k q ++ l.drop q)[q]? = some x ∧ (App.mkL k q ++ l.drop q).set q (App.mk1 (k + 5 * q)) = App.mkL k (q + 1) ++ l.drop (q + 1) := by
  obtain ⟨hq, rfl⟩ := List.getElem?_eq_some_iff.1 hx
  constructor
  · rw [List.getElem?_append_right (by rw [App.mkL_len]; omega), App.mkL_len]; simp [hq]
  · rw [List.set_append_right _ _ (by rw [App.mkL_len]; omega), App.mkL_len, Nat.sub_self, List.drop_eq_getElem_cons hq, List.set_cons_zero, App.mkL, List.append_assoc]; rfl

set_option maxHeartbeats 1000000 in
theorem markApplianceS_any (A : Option Addr) (c lo hi : Nat) (l : List App) (k : Int) (w : World) (hl : l.length ≤ 1048576) (hk0 : 1 ≤ k) (hk1 : k ≤ 50000000) (hS : Apps w lo hi A l) :
    Calls Tryz.prog 22 #[.slice A l.length c, .int .i64 k] w fun e w' => e = .returned (.int .i64 (k + 5 * l.length)) ∧ Apps w' lo hi A (App.mkL k l.length) ∧ Fr lo hi w w' := by
  go_enter Tryz.func22, Tryz.ntmps22
  go_wp2
  go_loopw [1, 5] (fun v i wr => ∃ (q : Nat) (kk : Int), q ≤ l.length ∧ i = .int .i64 q ∧ v = .int .i64 kk ∧ 1 ≤ kk ∧ kk ≤ k + 5 * q ∧ Hid (kk = k + 5 * q) ∧ Apps wr lo hi A (App.mkL k q ++ l.drop q) ∧ Fr lo hi w wr) (fun _ i _ => l.length - (intOf i).toNat)
  case atStart => exact ⟨0, k, Nat.zero_le _, rfl, rfl, hk0, by omega, Lib.hid (by omega), by simpa [App.mkL] using hS, Fr.refl _ _ _⟩
  case round =>
    obtain ⟨q, kk, hq, rfl, rfl, hkk0, hkk1, HK, hT, hB⟩ := hrel
    by_cases hlt : q < l.length
    · obtain ⟨x, hx1, _⟩ := get_lt hlt
      obtain ⟨hx0, HL⟩ := App.mkL_set (k := k) hx1
      replace HL := Lib.hid HL
      obtain ⟨b, off, rfl, hlo, hhi, _, hf⟩ := hT.at_ hx0
      have c0 : wr.cell? ⟨b, off + q * 5, none⟩ = some (.string x.nm) := (hf 0 _ rfl).1
      have f0 : wr.frozen? ⟨b, off + q * 5, none⟩ = false := (hf 0 _ rfl).2
      have c1 : wr.cell? ⟨b, off + q * 5 + 1, none⟩ = some (.int .i64 x.kd) := (hf 1 _ rfl).1
      have f1 : wr.frozen? ⟨b, off + q * 5 + 1, none⟩ = false := (hf 1 _ rfl).2
      have c2 : wr.cell? ⟨b, off + q * 5 + 2, none⟩ = some (.int .i64 x.nd) := (hf 2 _ rfl).1
      have f2 : wr.frozen? ⟨b, off + q * 5 + 2, none⟩ = false := (hf 2 _ rfl).2
      have c3 : wr.cell? ⟨b, off + q * 5 + 3, none⟩ = some (.int .i64 x.cw) := (hf 3 _ rfl).1
      have f3 : wr.frozen? ⟨b, off + q * 5 + 3, none⟩ = false := (hf 3 _ rfl).2
      have c4 : wr.cell? ⟨b, off + q * 5 + 4, none⟩ = some (.int .i64 x.st) := (hf 4 _ rfl).1
      have f4 : wr.frozen? ⟨b, off + q * 5 + 4, none⟩ = false := (hf 4 _ rfl).2
      clear hf
      go_wp2_with fail
      refine (markText_any _ (by omega) (by omega) _).mono ?_
      rintro e w1 ⟨rfl, hb⟩
      have t1 := hT.below hb
      have e1 := hB.on hb
      clear hb
      clear c0 f0 c1 f1 c2 f2 c3 f3 c4 f4
      obtain ⟨b', off', e, _, _, _, hf⟩ := t1.at_ hx0
      cases e
      have c0 : w1.cell? ⟨b, off + q * 5, none⟩ = some (.string (⟨x.nm, x.kd, x.nd, x.cw, x.st⟩ : App).nm) := (hf 0 _ rfl).1
      have f0 : w1.frozen? ⟨b, off + q * 5, none⟩ = false := (hf 0 _ rfl).2
      have c1 : w1.cell? ⟨b, off + q * 5 + 1, none⟩ = some (.int .i64 (⟨x.nm, x.kd, x.nd, x.cw, x.st⟩ : App).kd) := (hf 1 _ rfl).1
      have f1 : w1.frozen? ⟨b, off + q * 5 + 1, none⟩ = false := (hf 1 _ rfl).2
      have c2 : w1.cell? ⟨b, off + q * 5 + 2, none⟩ = some (.int .i64 (⟨x.nm, x.kd, x.nd, x.cw, x.st⟩ : App).nd) := (hf 2 _ rfl).1
      have f2 : w1.frozen? ⟨b, off + q * 5 + 2, none⟩ = false := (hf 2 _ rfl).2
      have c3 : w1.cell? ⟨b, off + q * 5 + 3, none⟩ = some (.int .i64 (⟨x.nm, x.kd, x.nd, x.cw, x.st⟩ : App).cw) := (hf 3 _ rfl).1
      have f3 : w1.frozen? ⟨b, off + q * 5 + 3, none⟩ = false := (hf 3 _ rfl).2
      have c4 : w1.cell? ⟨b, off + q * 5 + 4, none⟩ = some (.int .i64 (⟨x.nm, x.kd, x.nd, x.cw, x.st⟩ : App).st) := (hf 4 _ rfl).1
      have f4 : w1.frozen? ⟨b, off + q * 5 + 4, none⟩ = false := (hf 4 _ rfl).2
      clear hf
      go_wp2
      go_roundw
      case rel =>
        have s0 := Sl.set1 (i := q) (j := 0) (y := (⟨mt (kk), x.kd, x.nd, x.cw, x.st⟩ : App)) (u := .string (mt (kk))) t1 hx0 App.len (by omega) rfl
        have x0 := (List.getElem?_set_self (a := (⟨mt (kk), x.kd, x.nd, x.cw, x.st⟩ : App)) (List.getElem?_eq_some_iff.1 hx0).1)
        have g0 := Fr.setCell e1 (p := ⟨b, off + q * 5 + 0, none⟩) ⟨hlo, hhi⟩ (.string (mt (kk)))
        have s1 := Sl.set1 (i := q) (j := 1) (y := (⟨mt (kk), kk + 1, x.nd, x.cw, x.st⟩ : App)) (u := .int .i64 (kk + 1)) s0 x0 App.len (by omega) rfl
        have x1 := (List.getElem?_set_self (a := (⟨mt (kk), kk + 1, x.nd, x.cw, x.st⟩ : App)) (List.getElem?_eq_some_iff.1 x0).1)
        have g1 := Fr.setCell g0 (p := ⟨b, off + q * 5 + 1, none⟩) ⟨hlo, hhi⟩ (.int .i64 (kk + 1))
        have s2 := Sl.set1 (i := q) (j := 2) (y := (⟨mt (kk), kk + 1, kk + 1 + 1, x.cw, x.st⟩ : App)) (u := .int .i64 (kk + 1 + 1)) s1 x1 App.len (by omega) rfl
        have x2 := (List.getElem?_set_self (a := (⟨mt (kk), kk + 1, kk + 1 + 1, x.cw, x.st⟩ : App)) (List.getElem?_eq_some_iff.1 x1).1)
        have g2 := Fr.setCell g1 (p := ⟨b, off + q * 5 + 2, none⟩) ⟨hlo, hhi⟩ (.int .i64 (kk + 1 + 1))
        have s3 := Sl.set1 (i := q) (j := 3) (y := (⟨mt (kk), kk + 1, kk + 1 + 1, kk + 1 + 1 + 1, x.st⟩ : App)) (u := .int .i64 (kk + 1 + 1 + 1)) s2 x2 App.len (by omega) rfl
        have x3 := (List.getElem?_set_self (a := (⟨mt (kk), kk + 1, kk + 1 + 1, kk + 1 + 1 + 1, x.st⟩ : App)) (List.getElem?_eq_some_iff.1 x2).1)
        have g3 := Fr.setCell g2 (p := ⟨b, off + q * 5 + 3, none⟩) ⟨hlo, hhi⟩ (.int .i64 (kk + 1 + 1 + 1))
        have s4 := Sl.set1 (i := q) (j := 4) (y := (⟨mt (kk), kk + 1, kk + 1 + 1, kk + 1 + 1 + 1, kk + 1 + 1 + 1 + 1⟩ : App)) (u := .int .i64 (kk + 1 + 1 + 1 + 1)) s3 x3 App.len (by omega) rfl
        have x4 := (List.getElem?_set_self (a := (⟨mt (kk), kk + 1, kk + 1 + 1, kk + 1 + 1 + 1, kk + 1 + 1 + 1 + 1⟩ : App)) (List.getElem?_eq_some_iff.1 x3).1)
        have g4 := Fr.setCell g3 (p := ⟨b, off + q * 5 + 4, none⟩) ⟨hlo, hhi⟩ (.int .i64 (kk + 1 + 1 + 1 + 1))
        refine ⟨q + 1, kk + 5, by omega, by go_num, by go_num, by omega, by omega, Lib.hid (by have := HK.out; omega), ?_, g4⟩
        have hL := HL.out
        rw [← hL, ← HK.out]
        have hS4 := s4
        simp only [List.set_set] at hS4
        exact hS4
      case measure => simp [intOf]; omega
    · have hqe : q = l.length := by omega
      subst hqe
      have hk2 : kk = k + 5 * l.length := HK.out
      subst hk2
      go_wp2
      go_ret
      refine ⟨rfl, ?_, hB⟩
      simpa using hT
set_option maxHeartbeats 4000000 in
theorem heldApplianceS_any (A : Option Addr) (c lo hi n : Nat) (k : Int) (w : World) (hl : n ≤ 1048576) (hk0 : 1 ≤ k) (hk1 : k ≤ 50000000) (hS : Apps w lo hi A (App.mkL k n)) :
    Calls Tryz.prog 23 #[.slice A n c, .int .i64 k] w (RV w (.int .i64 (k + 5 * n))) := by
  go_enter Tryz.func23, Tryz.ntmps23
  go_wp2
  go_loopw [1, 5] (fun v i wr => ∃ (q : Nat) (kk : Int), q ≤ n ∧ i = .int .i64 q ∧ v = .int .i64 kk ∧ 1 ≤ kk ∧ kk ≤ k + 5 * q ∧ Hid (kk = k + 5 * q) ∧ Below w.heap.size w wr) (fun _ i _ => n - (intOf i).toNat)
  case atStart => exact ⟨0, k, Nat.zero_le _, rfl, rfl, hk0, by omega, Lib.hid (by omega), Below.refl _ _⟩
  case round =>
    obtain ⟨q, kk, hq, rfl, rfl, hkk0, hkk1, HK, hB⟩ := hrel
    by_cases hlt : q < n
    · have hx0 := App.mkL_at (k := k) hlt
      rw [← HK.out] at hx0
      obtain ⟨b, off, rfl, _, _, _, hf⟩ := (hS.below hB).at_ hx0
      have c0 : wr.cell? ⟨b, off + q * 5, none⟩ = some (.string (mt (kk))) := (hf 0 _ rfl).1
      have c1 : wr.cell? ⟨b, off + q * 5 + 1, none⟩ = some (.int .i64 (kk + 1)) := (hf 1 _ rfl).1
      have c2 : wr.cell? ⟨b, off + q * 5 + 2, none⟩ = some (.int .i64 (kk + 1 + 1)) := (hf 2 _ rfl).1
      have c3 : wr.cell? ⟨b, off + q * 5 + 3, none⟩ = some (.int .i64 (kk + 1 + 1 + 1)) := (hf 3 _ rfl).1
      have c4 : wr.cell? ⟨b, off + q * 5 + 4, none⟩ = some (.int .i64 (kk + 1 + 1 + 1 + 1)) := (hf 4 _ rfl).1
      clear hf hx0
      have hBc := hB
      clear hB
      go_wp2_with fail
      have hcls : ∀ w', Below wr.heap.size wr w' → w'.cell? ⟨b, off + q * 5, none⟩ = some (.string (mt (kk))) := fun w' hw' => keep hw' c0
      have HM : ∀ W : World, Calls Tryz.prog 95 #[.int .i64 (kk)] W (RV W (.string (mt (kk)))) := fun W => markText_any _ (by omega) (by omega) W
      refine wp_region_quiet (C := fun w' => Below wr.heap.size wr w') (by kernel_rfl) (by kernel_rfl) ((Below.refl _ _).drew) ?_
      dsimp only [Array.toList]
      iterate 8
        with_reducible refine wpQuiet_step (fun K hK => ?_)
        go_simp
        first
          | (refine hK _ ?_; clear hK K)
          | (apply Exists.intro
             refine ⟨fun w' hw' => ?_, hK _ ?_⟩
             · have z0 := hcls w' hw'
               go_simp
               first
                 | rfl
                 | (refine (HM _).mono ?_; rintro e w1 ⟨rfl, hb⟩; exact ⟨rfl, hw'.trans (hb.mono hw'.size)⟩)
             clear hK K)
      refine wpQuiet_nil ?_
      intro W2 hW
      clear hcls HM
      replace c0 := keep hW c0
      replace c1 := keep hW c1
      replace c2 := keep hW c2
      replace c3 := keep hW c3
      replace c4 := keep hW c4
      replace hBc := Below.on' hBc hW
      clear hW
      go_wp2
      go_roundw
      case rel => exact ⟨q + 1, kk + 5, by omega, by go_num, by go_num, by omega, by omega, Lib.hid (by have := HK.out; omega), by go_grown⟩
      case measure => simp [intOf]; omega
    · have hqe : q = n := by omega
      subst hqe
      have hk2 : kk = k + 5 * q := HK.out
      subst hk2
      go_wp2
      go_ret
      exact ⟨rfl, hB⟩
end Go.Proofs.YtianabfehonliaaGreatDoor
namespace Go.Proofs.YtianabfehonliaaGreatDoor
open Go.RowKit

def App.eqB (x y : App) : Bool := decide (x.nm.toList = y.nm.toList) && decide (x.kd = y.kd) && decide (x.nd = y.nd) && decide (x.cw = y.cw) && decide (x.st = y.st)
theorem App.eqB_comm (x y : App) : App.eqB x y = App.eqB y x := by unfold App.eqB; simp only [eq_comm]
theorem App.eqB_iff {x y : App} : App.eqB x y = true ↔ x = y := by
  cases x; cases y
  simp only [App.eqB, Bool.and_eq_true, decide_eq_true_eq, App.mk.injEq]
  constructor
  · intro h
    simp only [and_assoc] at h
    obtain ⟨h0, h1, h2, h3, h4⟩ := h
    exact ⟨toList_inj h0, h1, h2, h3, h4⟩
  · intro h
    obtain ⟨h0, h1, h2, h3, h4⟩ := h
    subst h0 h1 h2 h3 h4
    simp
theorem App.eql (x y : App) (w : World) : (binOp .eql 90 (.agg #[.string x.nm, .int .i64 x.kd, .int .i64 x.nd, .int .i64 x.cw, .int .i64 x.st]) (.agg #[.string y.nm, .int .i64 y.kd, .int .i64 y.nd, .int .i64 y.cw, .int .i64 y.st])).run Tryz.prog w = .ok (.bool (App.eqB x y)) w := by
  go_simp
  by_cases q0 : x.nm.toList = y.nm.toList <;> by_cases q1 : x.kd = y.kd <;> by_cases q2 : x.nd = y.nd <;> by_cases q3 : x.cw = y.cw <;> by_cases q4 : x.st = y.st <;> simp [App.eqB, q0, q1, q2, q3, q4]
theorem App.one (x : App) : ∀ u ∈ x.cells, u.oneCell' = true := by
  intro u hu
  simp [App.cells] at hu
  rcases hu with rfl | rfl | rfl | rfl | rfl <;> rfl
/-- The predicate p, as the function value g with what it captured. -/
def App.Pred (g : FuncId) (lb : Array Value) (p : App → Bool) (lo hi : Nat) (l : List App) (w : World) : Prop :=
  ∀ (W : World) (x : App), x ∈ l → Fr lo hi w W → Calls Tryz.prog g (#[.agg #[.string x.nm, .int .i64 x.kd, .int .i64 x.nd, .int .i64 x.cw, .int .i64 x.st]] ++ lb) W fun e w' => e = .returned (.bool (p x)) ∧ Below W.heap.size W w'
set_option maxHeartbeats 1000000 in
theorem App.IndexFunc_any (g : FuncId) (lb : Array Value) (p : App → Bool) (A : Option Addr) (c lo hi lo' hi' : Nat) (l : List App) (w : World) (eg : Enters g) (hl : l.length ≤ 1048576) (hS : Apps w lo hi A l) (hp : App.Pred g lb p lo' hi' l w) :
    Calls Tryz.prog 163 #[.slice A l.length c, .func (.func g) #[] lb] w (RV w (.int .i64 (idxG p l 0))) := by
  have eg' : ∀ args w, (callFunc g args).run Tryz.prog w = .ok (.enter g args) w := eg
  go_enter Tryz.func163, Tryz.ntmps163
  go_wp2_with fail
  go_loopw [8] (fun i wr => ∃ k : Nat, k ≤ l.length ∧ i = .int .i64 k ∧ Hid (idxG p (l.drop k) k = idxG p l 0) ∧ Below w.heap.size w wr) (fun i _ => l.length - (intOf i).toNat)
  case atStart => exact ⟨0, Nat.zero_le _, rfl, rfl, Below.refl _ _⟩
  case round =>
    obtain ⟨k, hk, rfl, HF, hB⟩ := hrel
    by_cases hlt : k < l.length
    · obtain ⟨x, hx, hx2⟩ := get_lt hlt
      have HC := Lib.hid (idxG_step (p := p) hx)
      obtain ⟨b, off, rfl, _, _, _, hf⟩ := (hS.below hB).at_ hx
      have c0 : wr.cell? ⟨b, off + k * 5, none⟩ = some (.string x.nm) := (hf 0 _ rfl).1
      have c1 : wr.cell? ⟨b, off + k * 5 + 1, none⟩ = some (.int .i64 x.kd) := (hf 1 _ rfl).1
      have c2 : wr.cell? ⟨b, off + k * 5 + 2, none⟩ = some (.int .i64 x.nd) := (hf 2 _ rfl).1
      have c3 : wr.cell? ⟨b, off + k * 5 + 3, none⟩ = some (.int .i64 x.cw) := (hf 3 _ rfl).1
      have c4 : wr.cell? ⟨b, off + k * 5 + 4, none⟩ = some (.int .i64 x.st) := (hf 4 _ rfl).1
      have hcall := hp wr x hx2 ⟨hB.os, hB.tape, hB.output, hB.size, fun b hb _ => hB.block b hb⟩
      clear hf hx hx2
      cases hq : p x with
      | true =>
        have HQ := Lib.hid (HC.out.trans (if_pos hq))
        rw [hq] at hcall
        clear HC hq
        go_wp2_with (go_at_fn g; refine hcall.mono ?_; rintro e w1 ⟨rfl, hb⟩)
        go_ret
        exact RV.mk (by rw [← HF.out, HQ.out]; rfl) (Below.on' hB hb)
      | false =>
        have HQ := Lib.hid (HC.out.trans (if_neg (by rw [hq]; exact Bool.false_ne_true)))
        rw [hq] at hcall
        clear HC hq
        go_wp2_with (go_at_fn g; refine hcall.mono ?_; rintro e w1 ⟨rfl, hb⟩)
        have hB1 := Below.on' hB hb
        go_roundw
        case rel => exact ⟨k + 1, by omega, by go_num, Lib.hid (HQ.out.symm.trans HF.out), hB1⟩
        case measure => simp [intOf]; omega
    · have hd : l.drop k = [] := List.drop_of_length_le (by omega)
      have HE : Hid ((-1 : Int) = idxG p l 0) := Lib.hid (by have := HF.out; rw [hd] at this; exact this)
      clear hd HF
      go_wp2
      go_ret
      exact RV.mk (by rw [← HE.out]; rfl) hB
theorem App.Clone_any (Al : Option Addr) (cl : Nat) (l : List App) (w : World) (hll : l.length ≤ 1048576) (hSl : Apps w 0 w.heap.size Al l) : Calls Tryz.prog 111 #[.slice Al l.length cl] w (RO1 App.cells 5 90 w l) := by
  obtain ⟨i0, hi0, hz0, hz1, hz2⟩ := info_parts App.info
  have qn : ∀ (w : World) (a : Option Addr) (n c n' c' : Nat), (binOp .eql 31 (.slice a n c) (.slice none n' c')).run Tryz.prog w = .ok (.bool a.isNone) w := fun w a n c n' c' => Lib.run_eql_slice_nil w _ _ a n c n' c' Tryz.underlying31
  cases Al with
  | none =>
    have hl0 := hSl.none_nil
    subst hl0
    go_enter Tryz.func111, Tryz.ntmps111
    go_wp2
    go_ret
    exact ⟨none, 0, rfl, Own.nil_, Below.refl _ _⟩
  | some ad =>
    go_enter Tryz.func111, Tryz.ntmps111
    go_wp2_with (at_builtin; refine wpList_append_all _ rfl (.tmp 5) (.tmp 6) _ rfl i0 _ _ Tryz.underlying31 hi0 hz0 hz1 hz2 rfl (by omega) App.len App.one (Own.empty w (Nat.le_refl _)) (hSl.alloc _) rfl rfl (by unfold maxLen; first | omega | (simp; omega)) (by first | omega | (simp; omega)) (by first | exact Nat.le_refl _ | (simp; done) | omega) ?_; intro A' c' w1 L hL hO hB; have hB1 : Below w.heap.size w w1 := Below.trans (by go_grown) hB)
    clear hi0 hz0 hz1 hz2 hB qn
    go_ret
    obtain rfl : L = l := hL.out
    exact ⟨A', c', rfl, hO, hB1⟩
end Go.Proofs.YtianabfehonliaaGreatDoor

/- The sum of a log: what the program and the reference reckon. Conditions: entries as in the texts of logs; the table of powers as the row lists it. -/
import Derived.Test.YtmdmcjhodhphgaaGreatDoorLine
import Derived.Laws.Rows
namespace Go.Proofs.YtmdmcjhodhphgaaGreatDoor
open Go.RowKit

def sumN (l : List UInt8) : Nat := l.foldl (fun a c => (31 * a + c.toNat) % 1000003) 17
theorem sumN_snoc (l : List UInt8) (c : UInt8) : sumN (l ++ [c]) = (31 * sumN l + c.toNat) % 1000003 := by simp [sumN, List.foldl_append]
theorem sum_byte {s : ByteArray} {k : Nat} (h : k < s.size) : s.data.toList[k]? = some s[k] := by rw [List.getElem?_eq_getElem (by simpa using h)]; rfl
theorem sumN_next {s : ByteArray} {k : Nat} (h : k < s.size) : sumN (s.data.toList.take (k + 1)) = (31 * sumN (s.data.toList.take k) + s[k].toNat) % 1000003 := by rw [take_snoc (sum_byte h), sumN_snoc]
def sumT (l : List Ent) : Int := if logB l = true then (sumN (allT l).data.toList : Nat) else 0
set_option maxHeartbeats 1000000 in
theorem lgSum_any (s : ByteArray) (hs : s.size ≤ 1073741824) (w : World) : Calls Tryz.prog 69 #[.string s] w (RV w (.int .i64 (sumN s.data.toList : Nat))) := by
  go_enter Tryz.func69, Tryz.ntmps69
  go_wp2_with fail
  go_loopw [3, 4] (fun v i wr => ∃ (k u : Nat), k ≤ s.size ∧ i = .int .i64 k ∧ v = .int .i64 u ∧ u < 1000003 ∧ Hid (u = sumN (s.data.toList.take k)) ∧ Below w.heap.size w wr) (fun _ i _ => s.size - (intOf i).toNat)
  case atStart => exact ⟨0, 17, Nat.zero_le _, rfl, rfl, by omega, Lib.hid rfl, Below.refl _ _⟩
  case round =>
    obtain ⟨k, u, hk, rfl, rfl, hu, HU, hB⟩ := hrel
    by_cases hlt : k < s.size
    · have HN : Hid ((31 * u + s[k].toNat) % 1000003 = sumN (s.data.toList.take (k + 1))) := Lib.hid (by rw [sumN_next hlt, HU.out])
      clear HU
      have hc : s[k].toNat < 256 := s[k].toNat_lt
      generalize hcv : s[k].toNat = c at HN hc
      have e1 : IntKind.i64.wrap (31 * (u : Int)) = 31 * (u : Int) := IntWalk.i64_in _ (by omega)
      have e2 : IntKind.i64.wrap (c : Int) = c := IntWalk.i64_in _ (by omega)
      have e3 : IntKind.i64.wrap (31 * (u : Int) + c) = 31 * (u : Int) + c := IntWalk.i64_in _ (by omega)
      have e4 : (31 * (u : Int) + c).tmod 1000003 = (((31 * u + c) % 1000003 : Nat) : Int) := by rw [Int.tmod_eq_emod_of_nonneg (by omega)]; omega
      have e5 : IntKind.i64.wrap ((((31 * u + c) % 1000003 : Nat) : Int)) = (((31 * u + c) % 1000003 : Nat) : Int) := IntWalk.i64_in _ (by omega)
      have hm : (31 * u + c) % 1000003 < 1000003 := Nat.mod_lt _ (by decide)
      go_wp2
      go_roundw
      case rel => exact ⟨k + 1, (31 * u + c) % 1000003, by omega, by go_num, by first | rfl | (refine vint ?_; simp only [e1, e2, e3, e4, e5]; done) | (refine vint ?_; simp [*]; done), hm, HN, hB⟩
      case measure => simp [intOf]; omega
    · have HE : Hid (u = sumN s.data.toList) := Lib.hid (by rw [HU.out, List.take_of_length_le (by rw [← Lib.size_eq]; omega)])
      clear HU
      go_wp2
      go_ret
      exact RV.mk (by rw [HE.out]; rfl) hB
theorem bytes_conv (W : World) (p : ByteArray) : ∃ cap W', (convert 9 22 (.string p)).run Tryz.prog W = .ok (.slice (some ⟨W.heap.size, 0, none⟩) p.size cap) W' ∧ (∀ k (h : k < p.size), W'.cell? ⟨W.heap.size, k, none⟩ = some (.int .u8 (p[k].toNat : Int))) ∧ Below W.heap.size W W' ∧ W.heap.size < W'.heap.size := by
  refine ⟨_, _, run_bytes_of_string W 9 22 5 p Tryz.underlying9 Tryz.underlying22 Tryz.underlying5, fun k h => ?_, ?_, ?_⟩
  · have := bytesRow_at p (grownCap W p.size 0 5) k h
    exact (World.cell?_alloc_mark W.drew _ _ _ k).trans this
  · exact ((Below.refl _ _).drew).alloc (Nat.le_refl _) _
  · show W.drew.heap.size < _; simp
set_option maxHeartbeats 1000000 in
theorem SumOfLog_spec (Al : Option Addr) (cl : Nat) (l : List Ent) (w : World) (hll : l.length ≤ 1048576) (hml : ∀ x ∈ l, x.t.size ≤ 1048576) (hSl : Ents w 0 w.heap.size Al l) (_hcl : l.length ≤ cl) : Calls Tryz.prog 23 #[.slice Al l.length cl] w (RV w (.tuple #[.int .i64 (sumT l), .bool (logB l)])) := by
  have hg := lgGood_any Al cl l w (big hll) (bigs hml) hSl
  unfold sumT
  cases g : logB l with
  | false =>
    rw [g] at hg
    rw [if_neg (by decide)]
    go_enter Tryz.func23, Tryz.ntmps23
    go_wp2_with fail
    refine hg.mono ?_
    rintro e w1 ⟨rfl, hb⟩
    go_wp2
    go_ret2
    exact RV.mk rfl hb
  | true =>
    rw [g] at hg
    rw [if_pos rfl]
    have hc := fun W hW => lgAll_any Al cl l W hll (logB_ents g).1 hW
    have hsz : (allT l).size ≤ 1073741824 := by
      have h1 := allT_size (logB_ents g).1
      have h2 := (logB_ents g).2
      omega
    generalize allT l = L at hc hsz ⊢
    go_enter Tryz.func23, Tryz.ntmps23
    go_wp2_with fail
    refine hg.mono ?_
    rintro e w1 ⟨rfl, hb⟩
    go_wp2_with fail
    refine (hc _ (hSl.below hb).all).mono ?_
    rintro e w2 ⟨rfl, hb2⟩
    have hB2 := Below.on' hb hb2
    clear hb hb2 hg hc hSl
    go_wp2_with fail
    refine (lgSum_any L hsz _).mono ?_
    rintro e w3 ⟨rfl, hb3⟩
    have hB3 := Below.on' hB2 hb3
    go_wp2
    go_ret2
    exact RV.mk rfl hB3
set_option maxHeartbeats 1000000 in
theorem SumOfLog_impl (Al : Option Addr) (cl : Nat) (l : List Ent) (w : World) (hll : l.length ≤ 1048576) (hml : ∀ x ∈ l, x.t.size ≤ 1048576) (hSl : Ents w 0 w.heap.size Al l) (_hcl : l.length ≤ cl) (hT : TabW w) : Calls Tryz.prog 22 #[.slice Al l.length cl] w (RV w (.tuple #[.int .i64 (sumT l), .bool (logB l)])) := by
  have hg := isLog_any Al cl l w (big hll) (bigs hml) hSl
  unfold sumT
  cases g : logB l with
  | false =>
    rw [g] at hg
    rw [if_neg (by decide)]
    go_enter Tryz.func22, Tryz.ntmps22
    go_wp2_with fail
    refine hg.mono ?_
    rintro e w1 ⟨rfl, hb⟩
    go_wp2
    go_ret2
    exact RV.mk rfl hb
  | true =>
    rw [g] at hg
    rw [if_pos rfl]
    have hc := fun W hW (hWT : TabW W) => entriesText_any Al cl l W hll (logB_ents g).1 hW hWT
    have hsz : (allT l).size ≤ 1073741824 := by
      have h1 := allT_size (logB_ents g).1
      have h2 := (logB_ents g).2
      omega
    generalize allT l = L at hc hsz ⊢
    go_enter Tryz.func22, Tryz.ntmps22
    go_wp2_with fail
    refine hg.mono ?_
    rintro e w1 ⟨rfl, hb⟩
    go_wp2_with fail
    refine (hc _ (hSl.below hb).all (hT.below hb)).mono ?_
    rintro e w2 ⟨rfl, hb2⟩
    have hB2 := Below.on' hb hb2
    clear hb hb2 hg hc hSl
    obtain ⟨cap, W', hconv, hcell, hbc, hlt0⟩ := bytes_conv w2 L
    have hB3 := Below.on' hB2 hbc
    clear hbc hB2
    go_wp2_with fail
    go_loopw [4, 14] (fun v i wr => ∃ (k u : Nat), k ≤ L.size ∧ i = .int .i64 k ∧ v = .int .i64 u ∧ u < 1000003 ∧ Hid (u = sumN (L.data.toList.take k)) ∧ Below W'.heap.size W' wr) (fun _ i _ => L.size - (intOf i).toNat)
    case atStart => exact ⟨0, 17, Nat.zero_le _, rfl, rfl, by omega, Lib.hid rfl, Below.refl _ _⟩
    case round =>
      obtain ⟨k, u, hk, rfl, rfl, hu, HU, hB⟩ := hrel
      by_cases hlt : k < L.size
      · have HN : Hid ((31 * u + L[k].toNat) % 1000003 = sumN (L.data.toList.take (k + 1))) := Lib.hid (by rw [sumN_next hlt, HU.out])
        have c0 : wr.cell? ⟨w2.heap.size, k, none⟩ = some (.int .u8 (L[k].toNat : Int)) := keep hB (hcell k hlt)
        clear HU
        have hc : L[k].toNat < 256 := L[k].toNat_lt
        generalize hcv : L[k].toNat = c at HN hc c0
        have e1 : IntKind.i64.wrap (31 * (u : Int)) = 31 * (u : Int) := IntWalk.i64_in _ (by omega)
        have e2 : IntKind.i64.wrap (c : Int) = c := IntWalk.i64_in _ (by omega)
        have e3 : IntKind.i64.wrap (31 * (u : Int) + c) = 31 * (u : Int) + c := IntWalk.i64_in _ (by omega)
        have e4 : (31 * (u : Int) + c).tmod 1000003 = (((31 * u + c) % 1000003 : Nat) : Int) := by rw [Int.tmod_eq_emod_of_nonneg (by omega)]; omega
        have e5 : IntKind.i64.wrap ((((31 * u + c) % 1000003 : Nat) : Int)) = (((31 * u + c) % 1000003 : Nat) : Int) := IntWalk.i64_in _ (by omega)
        have hm : (31 * u + c) % 1000003 < 1000003 := Nat.mod_lt _ (by decide)
        go_wp2
        go_roundw
        case rel => exact ⟨k + 1, (31 * u + c) % 1000003, by omega, by go_num, by first | rfl | (refine vint ?_; simp only [e1, e2, e3, e4, e5]; done) | (refine vint ?_; simp [*]; done), hm, HN, hB⟩
        case measure => simp [intOf]; omega
      · have HE : Hid (u = sumN L.data.toList) := Lib.hid (by rw [HU.out, List.take_of_length_le (by rw [← Lib.size_eq]; omega)])
        clear HU
        go_wp2
        go_ret2
        exact RV.mk (by rw [HE.out]; rfl) (Below.on' hB3 hB)
end Go.Proofs.YtmdmcjhodhphgaaGreatDoor

/- TellState on both sides. Conditions: at most 2^20 in each list, texts of at most 2^20; the listed variables as Said has them. -/
import Derived.Test.YtjmjilkpckbpeaaGreatDoorLM
import Derived.Test.YtjmjilkpckbpeaaGreatDoorLP
import Derived.Test.YtjmjilkpckbpeaaGreatDoorEndBh
import Derived.Test.YtjmjilkpckbpeaaGreatDoorShAll
namespace Go.Proofs.YtjmjilkpckbpeaaGreatDoor
open Go.RowKit

section
variable {α : Type} {E : α → List Value} {k : Nat} {w : World} {lo hi b off : Nat} {l : List α}
/-- All cells of one element written. -/
theorem Sl.set_elem {i : Nat} {x y : α} (h : Sl E k w lo hi (some ⟨b, off, none⟩) l) (hx : l[i]? = some x) (hE : ∀ y, (E y).length = k) :
    Sl E k (w.setCells b (off + i * k) (E y)) lo hi (some ⟨b, off, none⟩) (l.set i y) := fun _ => by
  have hn : l ≠ [] := by rintro rfl; simp at hx
  obtain ⟨b', off', e1, c, d, g, f⟩ := h hn
  injection e1 with e1
  injection e1 with e1 e2
  subst e1 e2
  refine ⟨b, off, rfl, c, d, by rw [setCells_heap_size]; exact g, fun a z hz j v hv => ?_⟩
  have hj : j < k := by have := (List.getElem?_eq_some_iff.1 hv).1; rw [hE] at this; exact this
  rw [World.frozen?_setCells]
  by_cases ha : a = i
  · subst ha
    have hz' : z = y := by
      rw [List.getElem?_set_self (List.getElem?_eq_some_iff.1 hx).1] at hz
      exact (Option.some.inj hz).symm
    subst hz'
    have hjx : j < (E x).length := by rw [hE]; exact hj
    have hold := f a x hx j _ (List.getElem?_eq_getElem hjx)
    refine ⟨?_, hold.2⟩
    have hj2 : j < (E z).length := by rw [hE]; exact hj
    have := World.cell?_setCells_in b (E z) (off + a * k) w (fun t ht => by
      rw [hE] at ht
      have htx : t < (E x).length := by rw [hE]; exact ht
      rw [(f a x hx t _ (List.getElem?_eq_getElem htx)).1]; rfl) j hj2
    rw [this]
    exact congrArg some (List.getElem?_eq_some_iff.1 hv).2
  · rw [List.getElem?_set_ne (fun e => ha e.symm)] at hz
    have hold := f a z hz j v hv
    refine ⟨?_, hold.2⟩
    rw [World.cell?_setCells_out b _ _ _ _ (fun _ _ => ?_)]
    · exact hold.1
    · rw [hE]
      rcases Nat.lt_or_ge a i with hlt | hge
      · left
        show off + a * k + j < off + i * k
        have : (a + 1) * k ≤ i * k := Nat.mul_le_mul_right _ hlt
        rw [Nat.add_mul, Nat.one_mul] at this
        omega
      · right
        show off + i * k + k ≤ off + a * k + j
        have : (i + 1) * k ≤ a * k := Nat.mul_le_mul_right _ (by omega)
        rw [Nat.add_mul, Nat.one_mul] at this
        omega
end
theorem itoa_dig (k : Nat) (h : k ≤ 5) : (⟨(Lib.decDigits k).toArray⟩ : ByteArray) = digT k := by
  rcases (by omega : k = 0 ∨ k = 1 ∨ k = 2 ∨ k = 3 ∨ k = 4 ∨ k = 5) with rfl | rfl | rfl | rfl | rfl | rfl <;> decide +kernel
theorem stateBody_a (n : Int) (h : 0 ≤ n ∧ n ≤ 5) (w : World) : Calls Tryz.prog 104 #[.int .i64 n] w (RV w (.string (stT n))) := by
  obtain ⟨k, rfl⟩ : ∃ k : Nat, n = k := ⟨n.toNat, by omega⟩
  have hc := fun W => Tryz.strconv_Itoa_small k (by omega) W
  rw [itoa_dig k (by omega)] at hc
  go_enter Tryz.func104, Tryz.ntmps104
  go_wp2_with fail
  refine (hc _).mono ?_
  rintro e w1 ⟨rfl, rfl⟩
  go_wp2
  go_ret
  exact RV.mk rfl (by go_grown)
set_option maxRecDepth 100000 in
set_option maxHeartbeats 4000000 in
theorem apWith_any (Al : Option Addr) (cl : Nat) (l : List App) (k : Nat) (a : App) (w : World) (hl : l.length ≤ 1048576) (hS : Apps w 0 w.heap.size Al l) (hk : k < l.length) :
    Calls Tryz.prog 146 #[.slice Al l.length cl, .int .i64 k, .agg #[.string a.nm, .int .i64 a.kd, .int .i64 a.nd, .int .i64 a.cw, .int .i64 a.st]] w (RS1 App.cells 5 w (l.set k a)) := by
  obtain ⟨i0, hi0, hz0, hz1, hz2⟩ := info_parts App.info
  have hO0 : Own App.cells 5 73 ((w.alloc (.cells #[.string a.nm, .int .i64 a.kd, .int .i64 a.nd, .int .i64 a.cw, .int .i64 a.st] 73)).alloc (.cells #[] 73)) (w.heap.size + 1) (some ⟨w.heap.size + 1, 0, none⟩) 0 ([] : List App) := by
    have h := Own.empty (E := App.cells) (k := 5) (T := 73) (base := w.heap.size + 1) (w.alloc (.cells #[.string a.nm, .int .i64 a.kd, .int .i64 a.nd, .int .i64 a.cw, .int .i64 a.st] 73)) (by simp)
    rwa [show (w.alloc (.cells #[.string a.nm, .int .i64 a.kd, .int .i64 a.nd, .int .i64 a.cw, .int .i64 a.st] 73)).heap.size = w.heap.size + 1 by simp] at h
  have hN := (BN.new w #[.string a.nm, .int .i64 a.kd, .int .i64 a.nd, .int .i64 a.cw, .int .i64 a.st] 73 _ rfl).alloc (by simp) (.cells #[] 73)
  have hg0 : Below w.heap.size w ((w.alloc (.cells #[.string a.nm, .int .i64 a.kd, .int .i64 a.nd, .int .i64 a.cw, .int .i64 a.st] 73)).alloc (.cells #[] 73)) := by go_grown
  have hbs : w.heap.size + 1 ≤ ((w.alloc (.cells #[.string a.nm, .int .i64 a.kd, .int .i64 a.nd, .int .i64 a.cw, .int .i64 a.st] 73)).alloc (.cells #[] 73)).heap.size := by rw [World.size_alloc, World.size_alloc]; omega
  go_enter Tryz.func146, Tryz.ntmps146
  go_wp2_with (at_builtin; refine wpList_append_all _ rfl (.tmp 8) (.tmp 9) _ rfl i0 _ _ Tryz.underlying50 hi0 hz0 hz1 hz2 rfl (by omega) App.len App.one hO0 ((hS.alloc _).alloc _) rfl rfl (by unfold maxLen; first | omega | (simp; omega)) (by first | omega | (simp; omega)) hbs ?_; intro A' c' w1 L hL hO hB; have hB1 : Below w.heap.size w w1 := hg0.trans (hB.mono (Nat.le_succ _)); have hN1 := hN.upto (Nat.lt_succ_self _) hB; have n0 := (hN1 0 _ rfl).1; have n1 := (hN1 1 _ rfl).1; have n2 := (hN1 2 _ rfl).1; have n3 := (hN1 3 _ rfl).1; have n4 := (hN1 4 _ rfl).1; have hkL : k < L.length := (by rw [hL.out, List.nil_append]; exact hk); have hSL := hO.sl App.len; obtain ⟨x, hx, _⟩ := get_lt hkL; obtain ⟨b, off, rfl, hlo, hhi, _, hf⟩ := hSL.at_ hx; have c0 : w1.cell? ⟨b, off + k * 5, none⟩ = some (.string x.nm) := (hf 0 _ rfl).1; have c1 : w1.cell? ⟨b, off + k * 5 + 1, none⟩ = some (.int .i64 x.kd) := (hf 1 _ rfl).1; have c2 : w1.cell? ⟨b, off + k * 5 + 2, none⟩ = some (.int .i64 x.nd) := (hf 2 _ rfl).1; have c3 : w1.cell? ⟨b, off + k * 5 + 3, none⟩ = some (.int .i64 x.cw) := (hf 3 _ rfl).1; have c4 : w1.cell? ⟨b, off + k * 5 + 4, none⟩ = some (.int .i64 x.st) := (hf 4 _ rfl).1; have f0 : w1.frozen? ⟨b, off + k * 5, none⟩ = false := (hf 0 _ rfl).2; have f1 : w1.frozen? ⟨b, off + k * 5 + 1, none⟩ = false := (hf 1 _ rfl).2; have f2 : w1.frozen? ⟨b, off + k * 5 + 2, none⟩ = false := (hf 2 _ rfl).2; have f3 : w1.frozen? ⟨b, off + k * 5 + 3, none⟩ = false := (hf 3 _ rfl).2; have f4 : w1.frozen? ⟨b, off + k * 5 + 4, none⟩ = false := (hf 4 _ rfl).2; have HX := Lib.hid hx; clear hf hx)
  obtain rfl : L = l := hL.out
  clear hi0 hz0 hz1 hz2 hB hN hN1 c0 f0 n0 c1 f1 n1 c2 f2 n2 c3 f3 n3 c4 f4 n4
  go_ret
  have hS2 := Sl.set_elem (y := a) hSL HX.out App.len
  have hF : Fr b (b + 1) w1 (w1.setCells b (off + k * 5) (App.cells a)) := Fr.setCells (b := b) ⟨Nat.le_refl _, Nat.lt_succ_self _⟩ (App.cells a) (off + k * 5) (Fr.refl _ _ _)
  have hs := hF.size
  exact RS1.of rfl (by rw [List.length_set]) (hS2.mono (Nat.le_refl _) hs (Nat.le_refl _)) (Nat.le_succ _) (by rw [List.length_set]; exact hO.cap) (hB1.trans (hF.below (by omega) (by have := hB1.size; omega)))
end Go.Proofs.YtjmjilkpckbpeaaGreatDoor

/- The text that the laws write into strings as a mark: a plain function of its number. Condition: the number lies in 1 .. 99999999. -/
import Derived.Test.YtcphchmpgnfokaaDoorMem
import Derived.Laws.IdiomStrings
namespace Go.Proofs.YtcphchmpgnfokaaDoor
open Go.RowKit

/-- string([]byte{x}). -/
theorem one_byte {P : Program} (src dst e : TypeId) (hs : P.underlying src = some (.slice e)) (he : P.underlying e = some (.int .u8)) (hd : P.underlying dst = some .string) (w : World) (x : Int) (h0 : 0 ≤ x) (h1 : x < 256) :
    (convert src dst (.slice (some ⟨w.heap.size, 0, none⟩) 1 1)).run P (w.alloc (.cells #[.int .u8 x] e)) = .ok (.string ⟨#[x.toNat.toUInt8]⟩) (w.alloc (.cells #[.int .u8 x] e)) := by
  have := run_convert_bytes_back (P := P) (w.alloc (.cells #[.int .u8 x] e)) src dst e ⟨w.heap.size, 0, none⟩ 1 [x.toNat.toUInt8] hs he hd (fun j hj => by
    simp at hj
    subst hj
    rw [show (⟨w.heap.size, 0, none⟩ : Addr).add 0 = ⟨w.heap.size, 0, none⟩ from rfl]
    simp
    omega)
  simpa using this

theorem app_bytes (a b : List UInt8) : (⟨a.toArray⟩ : ByteArray) ++ ⟨b.toArray⟩ = ⟨(a ++ b).toArray⟩ := by
  apply ByteArray.ext
  simp

def mtG : Nat → Int → List UInt8 → List UInt8
  | 0, _, o => o
  | f + 1, k, o => if 0 < k then mtG f (k / 10) ((48 + k % 10).toNat.toUInt8 :: o) else o
def mt (k : Int) : ByteArray := ⟨(109 :: mtG 8 k []).toArray⟩

theorem mtG_zero (f : Nat) (o : List UInt8) : mtG f 0 o = o := by cases f <;> simp [mtG]
theorem mtG_succ {f : Nat} {k : Int} (h : 0 < k) (o : List UInt8) : mtG (f + 1) k o = mtG f (k / 10) ((48 + k % 10).toNat.toUInt8 :: o) := by simp [mtG, h]

set_option maxHeartbeats 400000 in
theorem markText_any (k : Int) (h0 : 1 ≤ k) (h1 : k < 100000000) (w : World) : Calls Tryd.prog 62 #[.int .i64 k] w (RV w (.string (mt k))) := by
  go_enter Tryd.func62, Tryd.ntmps62
  go_wp2
  go_loopw [0, 3] (fun v s wr => ∃ (f : Nat) (q : Int) (o : List UInt8), v = .int .i64 q ∧ s = .string ⟨o.toArray⟩ ∧ 0 ≤ q ∧ q < 100000000 ∧ Hid (q < (10 : Int) ^ f) ∧ f ≤ 8 ∧ o.length + f ≤ 8 ∧ Hid (mtG f q o = mtG 8 k []) ∧ Below w.heap.size w wr) (fun v _ _ => (intOf v).toNat)
  case atStart => exact ⟨8, k, [], rfl, rfl, by omega, by omega, (by omega : k < (10 : Int) ^ 8), by omega, by simp, rfl, Below.refl _ _⟩
  case round =>
    obtain ⟨f, q, o, rfl, rfl, hq0, hq2, hq1, hf, ho, HE, hB⟩ := hrel
    by_cases hlt : 0 < q
    · have kc := one_byte (P := Tryd.prog) 68 9 5 Tryd.underlying68 Tryd.underlying5 Tryd.underlying9 wr (48 + q % 10) (by omega) (by omega)
      go_wp2
      go_roundw
      case rel =>
        have hz := hB.size
        obtain ⟨f', rfl⟩ : ∃ f', f = f' + 1 := by
          cases f with
          | zero => have := hq1.out; simp at this; omega
          | succ f' => exact ⟨f', rfl⟩
        refine ⟨f', q / 10, UInt8.ofNat (48 + q % 10).toNat :: o, rfl, congrArg Value.string (app_bytes _ _), by omega, by omega, ?_, by omega, by simp; omega, ?_, by go_grown⟩
        · have := hq1.out
          have h10 : (10 : Int) ^ (f' + 1) = 10 ^ f' * 10 := by rw [Int.pow_succ]
          rw [h10] at this
          show q / 10 < 10 ^ f'
          omega
        · have := HE.out
          rw [mtG_succ hlt] at this
          exact this
      case measure => simp [intOf]; omega
    · have hq : q = 0 := by omega
      subst hq
      go_wp2
      go_ret
      have h := HE.out
      rw [mtG_zero] at h
      exact RV.mk (by rw [h]; exact congrArg Value.string (app_bytes [109] _)) hB
end Go.Proofs.YtcphchmpgnfokaaDoor

/- The text that the laws write into strings as a mark: a plain function of its number. Condition: the number lies in 1 .. 99999999. -/
import Derived.Test.YtacjdapfbmdddaaMem
import Derived.Laws.IdiomStrings
namespace Go.Proofs.Ytacjdapfbmdddaa
open Go.RowKit

/-- string([]byte{x}). -/
theorem one_byte {P : Program} (src dst e : TypeId) (hs : P.underlying src = some (.slice e)) (he : P.underlying e = some (.int .u8)) (hd : P.underlying dst = some .string) (w : World) (x : Int) (h0 : 0 ≤ x) (h1 : x < 256) :
    (convert src dst (.slice (some ⟨w.heap.size, 0, none⟩) 1 1)).run P (w.alloc (.cells #[.int .u8 x] e)) = .ok (.string ⟨#[x.toNat.toUInt8]⟩) (w.alloc (.cells #[.int .u8 x] e)) := by
  have := run_convert_bytes_back (P := P) (w.alloc (.cells #[.int .u8 x] e)) src dst e ⟨w.heap.size, 0, none⟩ 1 [x.toNat.toUInt8] hs he hd (fun j hj => by
    simp at hj
    subst hj
    rw [show (⟨w.heap.size, 0, none⟩ : Addr).add 0 = ⟨w.heap.size, 0, none⟩ from rfl]
    simp
    omega)
  simpa using this

theorem app_bytes (a b : List UInt8) : (⟨a.toArray⟩ : ByteArray) ++ ⟨b.toArray⟩ = ⟨(a ++ b).toArray⟩ := by
  apply ByteArray.ext
  simp

def mtG : Nat → Int → List UInt8 → List UInt8
  | 0, _, o => o
  | f + 1, k, o => if 0 < k then mtG f (k / 10) ((48 + k % 10).toNat.toUInt8 :: o) else o
def mt (k : Int) : ByteArray := ⟨(109 :: mtG 8 k []).toArray⟩

theorem mtG_zero (f : Nat) (o : List UInt8) : mtG f 0 o = o := by cases f <;> simp [mtG]
theorem mtG_succ {f : Nat} {k : Int} (h : 0 < k) (o : List UInt8) : mtG (f + 1) k o = mtG f (k / 10) ((48 + k % 10).toNat.toUInt8 :: o) := by simp [mtG, h]

end Go.Proofs.Ytacjdapfbmdddaa

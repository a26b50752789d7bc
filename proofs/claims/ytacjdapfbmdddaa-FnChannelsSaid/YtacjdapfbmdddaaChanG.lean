/- Deliver and Confirm, on both sides. Condition: at most 2^20 messages in each list, texts of at most 2^20. -/
import Derived.Test.YtacjdapfbmdddaaChanE
import Derived.Test.YtacjdapfbmdddaaChanF
namespace Go.Proofs.Ytacjdapfbmdddaa
open Go.RowKit

theorem addW_eq {all l : List Msg} {m : Msg} (hU : KeyU all) (hl : ∀ x ∈ l, x ∈ all) (hm : m ∈ all) : addW l m = addM l m := by
  unfold addW addM
  rw [any_key hU hl hm]
def okI (s r h : List Msg) (n : Nat) (i : Int) : Bool := chanB s r h && inB i 0 ((n : Int) - 1)
/-- A channel and a bool returned: t. -/
def RCT (w : World) (t : (List Msg × List Msg × List Msg) × Bool) : Ending → World → Prop := RCB w t.1.1 t.1.2.1 t.1.2.2 t.2
def chNo : (List Msg × List Msg × List Msg) × Bool := (([], [], []), false)
theorem nat_of {n : Nat} {i : Int} (h : inB i 0 ((n : Int) - 1) = true) : ∃ k : Nat, i = k ∧ k < n := by
  simp only [inB, Bool.and_eq_true, decide_eq_true_eq] at h
  exact ⟨i.toNat, by omega, by omega⟩
def delT (s r h : List Msg) (i : Int) : (List Msg × List Msg × List Msg) × Bool :=
  if okI s r h s.length i = true then (match s[i.toNat]? with | some m => ((s, addM r m, h), true) | none => chNo) else chNo
theorem delT_no {s r h : List Msg} {i : Int} (hg : okI s r h s.length i = false) : chNo = delT s r h i := by rw [delT, hg]; rfl
theorem delT_yes {s r h : List Msg} {k : Nat} {m : Msg} (hg : okI s r h s.length k = true) (hm : s[k]? = some m) : ((s, addM r m, h), true) = delT s r h k := by rw [delT, if_pos hg, Int.toNat_natCast, hm]
def conT (s r h : List Msg) (i : Int) : (List Msg × List Msg × List Msg) × Bool :=
  if okI s r h r.length i = true then (match r[i.toNat]? with | some m => ((s, r, addM h m), true) | none => chNo) else chNo
theorem conT_no {s r h : List Msg} {i : Int} (hg : okI s r h r.length i = false) : chNo = conT s r h i := by rw [conT, hg]; rfl
theorem conT_yes {s r h : List Msg} {k : Nat} {m : Msg} (hg : okI s r h r.length k = true) (hm : r[k]? = some m) : ((s, r, addM h m), true) = conT s r h k := by rw [conT, if_pos hg, Int.toNat_natCast, hm]
end Go.Proofs.Ytacjdapfbmdddaa

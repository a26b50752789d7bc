/- A channel copied, by the program and by the reference. Condition: at most 2^20 messages in each list. -/
import Derived.Test.YtianabfehonliaaDoorChanC
import Derived.Test.YtianabfehonliaaDoorReg
namespace Go.Proofs.YtianabfehonliaaDoor
open Go.RowKit

/-- One list is copied (p = 1) or not yet (p = 0). -/
def Stg (p : Nat) (L : List Msg) (A : Option Addr) (c : Nat) (L' : List Msg) (v : Value) : Prop := (p = 0 ∧ A = none ∧ c = 0 ∧ L' = []) ∨ (p = 1 ∧ L' = L ∧ v = .slice A L.length c)
/-- One list: no row yet (p = 0), an empty row (p = 1), copied (p = 2). -/
def Sta (p : Nat) (L : List Msg) (A : Option Addr) (c : Nat) (L' : List Msg) (u v : Value) : Prop := (p = 0 ∧ A = none ∧ c = 0 ∧ L' = []) ∨ (p = 1 ∧ L' = [] ∧ u = .slice A 0 c) ∨ (p = 2 ∧ L' = L ∧ v = .slice A L.length c)
end Go.Proofs.YtianabfehonliaaDoor

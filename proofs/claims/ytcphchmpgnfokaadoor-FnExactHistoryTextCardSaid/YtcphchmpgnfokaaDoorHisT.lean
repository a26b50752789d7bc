/- The text of a history: what the program and the reference write. Conditions: lists and texts of at most 2^20; the table of powers as the row lists it. -/
import Derived.Test.YtcphchmpgnfokaaDoorLine
import Derived.Test.YtcphchmpgnfokaaDoorGood
namespace Go.Proofs.YtcphchmpgnfokaaDoor
open Go.RowKit

def hisTT (h : List Ent) : ByteArray := if histB h = true then allT h else ⟨#[]⟩
theorem hist_ents {h : List Ent} (g : histB h = true) : entsB h := by
  have g1 : twoB (of1 h) (not1 h) = true := by
    unfold histB at g
    simp only [Bool.and_eq_true] at g
    exact g.1.1
  unfold twoB at g1
  rw [Bool.and_eq_true] at g1
  intro e he
  by_cases hr : e.r = 1
  · exact (logB_ents g1.1).1 e (List.mem_filter.2 ⟨he, by simpa using hr⟩)
  · exact (logB_ents g1.2).1 e (List.mem_filter.2 ⟨he, by simpa using hr⟩)
theorem HistoryText_spec (Al : Option Addr) (cl : Nat) (l : List Ent) (w : World) (hll : l.length ≤ 1048576) (hml : ∀ x ∈ l, x.t.size ≤ 1048576) (hSl : Ents w 0 w.heap.size Al l) (hcl : l.length ≤ cl) : Calls Tryd.prog 27 #[.slice Al l.length cl] w (RV w (.tuple #[.string (hisTT l), .bool (histB l)])) := by
  have hg := mgGood_any Al cl l w hll hml hSl hcl
  unfold hisTT
  cases g : histB l with
  | false =>
    rw [g] at hg
    rw [if_neg (by decide)]
    go_enter Tryd.func27, Tryd.ntmps27
    go_wp2_with fail
    refine hg.mono ?_
    rintro e w1 ⟨rfl, hb⟩
    go_wp2
    go_ret2
    exact RV.mk rfl hb
  | true =>
    rw [g] at hg
    rw [if_pos rfl]
    have hc := fun W hW => lgAll_any Al cl l W hll (hist_ents g) hW
    generalize allT l = L at hc ⊢
    go_enter Tryd.func27, Tryd.ntmps27
    go_wp2_with fail
    refine hg.mono ?_
    rintro e w1 ⟨rfl, hb⟩
    go_wp2_with fail
    refine (hc _ (hSl.below hb).all).mono ?_
    rintro e w2 ⟨rfl, hb2⟩
    have hB2 := Below.on' hb hb2
    go_wp2
    go_ret2
    exact RV.mk rfl hB2
theorem HistoryText_impl (Al : Option Addr) (cl : Nat) (l : List Ent) (w : World) (hll : l.length ≤ 1048576) (hml : ∀ x ∈ l, x.t.size ≤ 1048576) (hSl : Ents w 0 w.heap.size Al l) (hcl : l.length ≤ cl) (hT : TabW w) : Calls Tryd.prog 28 #[.slice Al l.length cl] w (RV w (.tuple #[.string (hisTT l), .bool (histB l)])) := by
  have hg := isHistory_any Al cl l w hll hml hSl hcl
  unfold hisTT
  cases g : histB l with
  | false =>
    rw [g] at hg
    rw [if_neg (by decide)]
    go_enter Tryd.func28, Tryd.ntmps28
    go_wp2_with fail
    refine hg.mono ?_
    rintro e w1 ⟨rfl, hb⟩
    go_wp2
    go_ret2
    exact RV.mk rfl hb
  | true =>
    rw [g] at hg
    rw [if_pos rfl]
    have hc := fun W hW (hWT : TabW W) => entriesText_any Al cl l W hll (hist_ents g) hW hWT
    generalize allT l = L at hc ⊢
    go_enter Tryd.func28, Tryd.ntmps28
    go_wp2_with fail
    refine hg.mono ?_
    rintro e w1 ⟨rfl, hb⟩
    go_wp2_with fail
    refine (hc _ (hSl.below hb).all (hT.below hb)).mono ?_
    rintro e w2 ⟨rfl, hb2⟩
    have hB2 := Below.on' hb hb2
    go_wp2
    go_ret2
    exact RV.mk rfl hB2
end Go.Proofs.YtcphchmpgnfokaaDoor

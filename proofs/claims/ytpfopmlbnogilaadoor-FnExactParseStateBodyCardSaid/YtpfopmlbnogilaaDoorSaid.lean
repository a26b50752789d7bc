/- From a row's listed variables to what the walks ask of them. No conditions. -/
import Derived.Test.YtpfopmlbnogilaaDoorRn
import Derived.Stop.LaidErr
namespace Go.Proofs.YtpfopmlbnogilaaDoor
open Go.ChangeShapes Go.WideShapes Go.ChangeAt Go.RowKit Go.Joins

theorem gES : Tryd.prog.globalNamed "strconv.ErrSyntax" = some 1 := by kernel_rfl
theorem gEST : (Tryd.prog.globals[1]?).map (·.type) = some 68 := by kernel_rfl
theorem gER : Tryd.prog.globalNamed "strconv.ErrRange" = some 2 := by kernel_rfl
theorem gERT : (Tryd.prog.globals[2]?).map (·.type) = some 68 := by kernel_rfl
theorem cEs : Tryd.prog.cellsOf 134 = 1 := by kernel_rfl
theorem cStr : Tryd.prog.cellsOf 9 = 1 := by kernel_rfl
theorem starE : "*" ++ "errors.errorString" = "*errors.errorString" := by decide
theorem rowEs (u : TypeId) (h : Tryd.prog.typeName? 3 u = some "*errors.errorString") : u = 132 :=
  typeName_ptr_named (nm := "errors.errorString") (by rw [starE]; kernel_rfl) (by kernel_rfl) (by decide) u (by rw [starE]; exact h)
theorem said_of {W : World} (h0 : laidMetH Tryd.prog Rows.fnExactParseStateBodyRow.laid W) : Said W := by
  have h : laidMet Tryd.prog Rows.fnExactParseStateBodyRow.laid W := by rw [MakeChecks.laidMetH_plain _ _ _ (by kernel_rfl)] at h0; exact h0
  obtain ⟨a1, s1, hv1, -, -, -⟩ := laid_sentinel h.tail.tail.tail gER gERT Tryd.underlying68 rowEs Tryd.underlying132 Tryd.underlying134 rfl rfl Tryd.underlying9 cEs cStr
  obtain ⟨a0, s0, hv0, -, -, -⟩ := laid_sentinel h.tail.tail.tail.tail gES gEST Tryd.underlying68 rowEs Tryd.underlying132 Tryd.underlying134 rfl rfl Tryd.underlying9 cEs cStr
  obtain ⟨ps, ⟨g2, t2, cs2, f2, p2, q2, hg2, ht2, hv2, hd2, _, _⟩, _, _⟩ := h.tail.tail
  obtain rfl := Option.some.inj (gPow.symm.trans hg2)
  obtain rfl := Option.some.inj (tPow.symm.trans ht2)
  have ht := Lib.cells_of_tab (k := .u64) (zs := Lib.pow10Tab) Tryd.underlying136 Tryd.underlying117 (by kernel_rfl) (by kernel_rfl) hd2
  refine ⟨⟨_, _, by have := World.var?_cell gES hv0 0; simpa using this⟩, ⟨_, _, by have := World.var?_cell gER hv1 0; simpa using this⟩, ?_⟩
  unfold Lib.TabIs
  rw [hv2, ← ht]
end Go.Proofs.YtpfopmlbnogilaaDoor

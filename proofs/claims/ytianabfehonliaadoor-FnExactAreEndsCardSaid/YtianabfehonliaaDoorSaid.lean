/- From a row's listed variables to what the walks ask of them. No conditions. -/
import Derived.Test.YtianabfehonliaaDoorRn
import Derived.Stop.LaidErr
namespace Go.Proofs.YtianabfehonliaaDoor
open Go.ChangeShapes Go.WideShapes Go.ChangeAt Go.RowKit Go.Joins

theorem gES : Tryd.prog.globalNamed "strconv.ErrSyntax" = some 1 := by kernel_rfl
theorem gEST : (Tryd.prog.globals[1]?).map (·.type) = some 65 := by kernel_rfl
theorem gER : Tryd.prog.globalNamed "strconv.ErrRange" = some 2 := by kernel_rfl
theorem gERT : (Tryd.prog.globals[2]?).map (·.type) = some 65 := by kernel_rfl
theorem cEs : Tryd.prog.cellsOf 133 = 1 := by kernel_rfl
theorem cStr : Tryd.prog.cellsOf 9 = 1 := by kernel_rfl
theorem starE : "*" ++ "errors.errorString" = "*errors.errorString" := by decide
theorem rowEs (u : TypeId) (h : Tryd.prog.typeName? 3 u = some "*errors.errorString") : u = 131 :=
  typeName_ptr_named (nm := "errors.errorString") (by rw [starE]; kernel_rfl) (by kernel_rfl) (by decide) u (by rw [starE]; exact h)
theorem said_at {W : World} {r r' : List (String × DataW Unit)} (ht : laidMet Tryd.prog (("internal/strconv.uint64pow10", Rows.laid_internal_strconv_uint64pow10) :: r') W)
    (h : laidMet Tryd.prog (("strconv.ErrRange", Rows.laid_strconv_ErrRange) :: ("strconv.ErrSyntax", Rows.laid_strconv_ErrSyntax) :: r) W) : Said W := by
  obtain ⟨a1, s1, hv1, -, -, -⟩ := laid_sentinel h gER gERT Tryd.underlying65 rowEs Tryd.underlying131 Tryd.underlying133 rfl rfl Tryd.underlying9 cEs cStr
  obtain ⟨a0, s0, hv0, -, -, -⟩ := laid_sentinel h.tail gES gEST Tryd.underlying65 rowEs Tryd.underlying131 Tryd.underlying133 rfl rfl Tryd.underlying9 cEs cStr
  exact ⟨⟨_, _, by have := World.var?_cell gES hv0 0; simpa using this⟩, ⟨_, _, by have := World.var?_cell gER hv1 0; simpa using this⟩, tab_at ht⟩
end Go.Proofs.YtianabfehonliaaDoor

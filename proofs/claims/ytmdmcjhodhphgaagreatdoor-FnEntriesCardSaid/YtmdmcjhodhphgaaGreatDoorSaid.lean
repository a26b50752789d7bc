/- From a row's listed variables to what the walks ask of them. No conditions. -/
import Derived.Test.YtmdmcjhodhphgaaGreatDoorRn
import Derived.Stop.LaidErr
namespace Go.Proofs.YtmdmcjhodhphgaaGreatDoor
open Go.ChangeShapes Go.WideShapes Go.ChangeAt Go.RowKit Go.Joins

theorem gES : Tryz.prog.globalNamed "strconv.ErrSyntax" = some 2 := by kernel_rfl
theorem gEST : (Tryz.prog.globals[2]?).map (·.type) = some 107 := by kernel_rfl
theorem gER : Tryz.prog.globalNamed "strconv.ErrRange" = some 3 := by kernel_rfl
theorem gERT : (Tryz.prog.globals[3]?).map (·.type) = some 107 := by kernel_rfl
theorem cEs : Tryz.prog.cellsOf 150 = 1 := by kernel_rfl
theorem cStr : Tryz.prog.cellsOf 9 = 1 := by kernel_rfl
theorem starE : "*" ++ "errors.errorString" = "*errors.errorString" := by decide
theorem rowEs (u : TypeId) (h : Tryz.prog.typeName? 3 u = some "*errors.errorString") : u = 148 :=
  typeName_ptr_named (nm := "errors.errorString") (by rw [starE]; kernel_rfl) (by kernel_rfl) (by decide) u (by rw [starE]; exact h)
theorem said_at {W : World} {r r' : List (String × DataW Unit)} (ht : laidMet Tryz.prog (("internal/strconv.uint64pow10", Rows.laid_internal_strconv_uint64pow10) :: r') W)
    (h : laidMet Tryz.prog (("strconv.ErrRange", Rows.laid_strconv_ErrRange) :: ("strconv.ErrSyntax", Rows.laid_strconv_ErrSyntax) :: r) W) : Said W := by
  obtain ⟨a1, s1, hv1, -, -, -⟩ := laid_sentinel h gER gERT Tryz.underlying107 rowEs Tryz.underlying148 Tryz.underlying150 rfl rfl Tryz.underlying9 cEs cStr
  obtain ⟨a0, s0, hv0, -, -, -⟩ := laid_sentinel h.tail gES gEST Tryz.underlying107 rowEs Tryz.underlying148 Tryz.underlying150 rfl rfl Tryz.underlying9 cEs cStr
  exact ⟨⟨_, _, by have := World.var?_cell gES hv0 0; simpa using this⟩, ⟨_, _, by have := World.var?_cell gER hv1 0; simpa using this⟩, tab_at ht⟩
end Go.Proofs.YtmdmcjhodhphgaaGreatDoor

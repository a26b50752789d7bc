/- The tables and sentinels that strconv's functions read, as a row that lists them hands them over; the library's own variable that strings' searches read. No conditions. -/
import Derived.Test.YtacjdapfbmdddaaDoorRowD
import Derived.Lib.LaidTab
import Derived.Lib.ItoaNum
import Derived.Shelf.Vars
import Derived.Stop.LaidErr
namespace Go.Proofs.YtacjdapfbmdddaaDoor
open Go.ChangeShapes Go.WideShapes Go.ChangeAt Go.RowKit Go.Joins

theorem gPow : Tryd.prog.globalNamed "internal/strconv.uint64pow10" = some 0 := by kernel_rfl
theorem tPow : (Tryd.prog.globals[0]?).map (·.type) = some 66 := by kernel_rfl
theorem tab_at {W : World} {r : List (String × DataW Unit)} (h : laidMet Tryd.prog (("internal/strconv.uint64pow10", Rows.laid_internal_strconv_uint64pow10) :: r) W) : Lib.TabIs Tryd.prog W "internal/strconv.uint64pow10" .u64 Lib.pow10Tab := by
  obtain ⟨ps, ⟨g2, t2, cs2, f2, p2, q2, hg2, ht2, hv2, hd2, _, _⟩, _, _⟩ := h
  obtain rfl := Option.some.inj (gPow.symm.trans hg2)
  obtain rfl := Option.some.inj (tPow.symm.trans ht2)
  have := Lib.cells_of_tab (k := .u64) (zs := Lib.pow10Tab) Tryd.underlying66 Tryd.underlying43 (by kernel_rfl) (by kernel_rfl) hd2
  unfold Lib.TabIs
  rw [hv2, ← this]
end Go.Proofs.YtacjdapfbmdddaaDoor

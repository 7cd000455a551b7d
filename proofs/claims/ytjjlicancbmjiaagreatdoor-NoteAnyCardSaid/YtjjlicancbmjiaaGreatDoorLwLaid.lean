/- From a row's list of laid variables to what note's functions read of them. -/
import Derived.Test.YtjjlicancbmjiaaGreatDoorLW
import Derived.Test.YtjjlicancbmjiaaGreatDoorRows
import Derived.Stop.LaidErr
import Derived.Lib.LaidTab
import Derived.KernelRfl
namespace Go.Proofs.YtjjlicancbmjiaaGreatDoor.PNeg
open Go.Shelf Go.RowKit Go.ChangeShapes
set_option maxRecDepth 100000
theorem star : "*errors.errorString" = "*" ++ "errors.errorString" := by decide
theorem row168 (u : TypeId) (h : Tryz.prog.typeName? 3 u = some "*errors.errorString") : u = 168 :=
  typeName_ptr_named (nm := "errors.errorString") (by rw [← star]; kernel_rfl) (by kernel_rfl) (by decide) u (by rw [← star]; exact h)
theorem lw_of {W : World} (h : laidMet Tryz.prog Rows.noteAllRow.laid W) : LW W := by
  have h3 : laidMet Tryz.prog (("internal/strconv.uint64pow10", Lib.tabData .u64 Lib.pow10Tab) :: ("unicode/utf8.acceptRanges", Rows.laid_unicode_utf8_acceptRanges) :: ("strconv.ErrRange", Rows.laid_strconv_ErrRange) :: ("strconv.ErrSyntax", Rows.laid_strconv_ErrSyntax) :: ("unicode/utf8.first", Rows.laid_unicode_utf8_first) :: []) W := h.tail.tail
  obtain ⟨a1, s1, hv1, -, -, -⟩ := laid_sentinel (tp := 168) (te := 170) (ts := 9) (ti := 86) h3.tail.tail (g := 3) (by kernel_rfl) (by kernel_rfl) Tryz.underlying86 row168 Tryz.underlying168 Tryz.underlying170 rfl rfl Tryz.underlying9 (by kernel_rfl) (by kernel_rfl)
  obtain ⟨a2, s2, hv2, -, -, -⟩ := laid_sentinel (tp := 168) (te := 170) (ts := 9) (ti := 86) h3.tail.tail.tail (g := 2) (by kernel_rfl) (by kernel_rfl) Tryz.underlying86 row168 Tryz.underlying168 Tryz.underlying170 rfl rfl Tryz.underlying9 (by kernel_rfl) (by kernel_rfl)
  exact ⟨Lib.tabIs_of_head (g := 1) (by kernel_rfl) (by kernel_rfl) Tryz.underlying154 Tryz.underlying109 (by kernel_rfl) (by kernel_rfl) h3, ⟨_, _, hv2⟩, _, _, hv1⟩
end Go.Proofs.YtjjlicancbmjiaaGreatDoor.PNeg

/- The listed table gives the cell that is read of it. -/
import Derived.Test.YtedjplbiibflmaaDoorFinal
import Derived.Test.YtedjplbiibflmaaDoorFmt2
namespace Go.Proofs.YtedjplbiibflmaaDoor
open Go Go.RowKit
theorem tz_of_laid {W : World} (h : laidMetH Tryd.prog [("math/bits.deBruijn32tab", Rows.laid_math_bits_deBruijn32tab), ("math/bits.deBruijn64tab", Rows.laid_math_bits_deBruijn64tab), ("internal/strconv.uint64pow10", Rows.laid_internal_strconv_uint64pow10)] W) : Tz W := by
  have h1 : laidMet Tryd.prog [("math/bits.deBruijn32tab", Rows.laid_math_bits_deBruijn32tab), ("math/bits.deBruijn64tab", Rows.laid_math_bits_deBruijn64tab), ("internal/strconv.uint64pow10", Rows.laid_internal_strconv_uint64pow10)] W := h
  obtain ⟨ps, hps, _⟩ := h1
  obtain ⟨q, hq⟩ := laid_tail hps
  have ht := tab_of_laid (k := .u8) (zs := [0, 1, 56, 2, 57, 49, 28, 3, 61, 58, 42, 50, 38, 29, 17, 4, 62, 47, 59, 36, 45, 43, 51, 22, 53, 39, 33, 30, 24, 18, 12, 5, 63, 55, 48, 27, 60, 41, 37, 16, 46, 35, 44, 21, 52, 32, 23, 11, 54, 26, 40, 15, 34, 20, 31, 10, 25, 14, 19, 9, 13, 8, 7, 6]) (g := 3) (t := 99) (e := 5) (n := 64)
    (by kernel_rfl) (by kernel_rfl) (by kernel_rfl) (by kernel_rfl) (by kernel_rfl) (by kernel_rfl) hq
  exact Lib.TabIs.cell ht (by kernel_rfl) 1 (by decide)
end Go.Proofs.YtedjplbiibflmaaDoor

/- The listed table gives the numbers that strconv reads. -/
import Derived.Test.YthcbidbhkikhmaaDoorFinal
import Derived.Test.YthcbidbhkikhmaaDoorLin31
namespace Go.Proofs.YthcbidbhkikhmaaDoor
open Go Go.RowKit
theorem tb_of_laid {W : World} (h : laidMetH Tryd.prog Rows.linesKnownRow.laid W) : Tb W := by
  have h1 : laidMet Tryd.prog Rows.linesKnownRow.laid W := h
  obtain ⟨ps, hps, _⟩ := h1
  have hps' : DataW.LaidVars Tryd.prog W (("math/bits.deBruijn32tab", Rows.laid_math_bits_deBruijn32tab) :: ("math/bits.deBruijn64tab", Rows.laid_math_bits_deBruijn64tab) :: ("internal/strconv.uint64pow10", Rows.laid_internal_strconv_uint64pow10) :: ("unicode/utf8.acceptRanges", Rows.laid_unicode_utf8_acceptRanges) :: ("unicode/utf8.first", Rows.laid_unicode_utf8_first) :: []) ps := hps
  obtain ⟨q, hq⟩ := laid_tail hps'
  obtain ⟨q2, hq2⟩ := laid_tail hq
  exact tab_of_laid (k := .u64) (zs := Lib.pow10Tab) (g := 0) (t := 103) (e := 94) (n := 20) (by kernel_rfl) (by kernel_rfl) (by kernel_rfl) (by kernel_rfl) (by kernel_rfl) (by kernel_rfl) hq2
end Go.Proofs.YthcbidbhkikhmaaDoor

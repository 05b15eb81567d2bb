/- TsLaid21 -/
import Derived.Test.YthhijgcfbjcgiaaGreatDoorS08
import Derived.Test.YthhijgcfbjcgiaaGreatDoorS01
import Derived.Test.YthhijgcfbjcgiaaGreatDoorS19
namespace Go.Proofs.YthhijgcfbjcgiaaGreatDoor
open Go Go.RowKit
open Go.Lib renaming asciiSpaceTab→zAA
theorem Ib:Lib.tabData .u8 zAA=(Rows.laid_strings_asciiSpace:DataW Unit):=by kernel_rfl
theorem iJ {W:World} (h:laidMetH Tryz.prog Rows.streamKnownRow.laid W):Tz W∧Ts W:=by
 have h1:laidMet Tryz.prog Rows.streamKnownRow.laid W:=h
 obtain ⟨ps,hps,_⟩:=h1
 have hps':DataW.LaidVars Tryz.prog W (("math/bits.deBruijn32tab",Rows.laid_math_bits_deBruijn32tab)::("math/bits.deBruijn64tab",Rows.laid_math_bits_deBruijn64tab)::("internal/strconv.uint64pow10",Rows.laid_internal_strconv_uint64pow10)::("unicode/utf8.acceptRanges",Rows.laid_unicode_utf8_acceptRanges)::("strconv.ErrRange",Rows.laid_strconv_ErrRange)::("strconv.ErrSyntax",Rows.laid_strconv_ErrSyntax)::("unicode.White_Space",Rows.laid_unicode_White_Space)::("strings.asciiSpace",Rows.laid_strings_asciiSpace)::("unicode/utf8.first",Rows.laid_unicode_utf8_first)::[]) ps:=hps
 obtain ⟨q1,hq1⟩:=ii hps'
 obtain ⟨q2,hq2⟩:=ii hq1
 obtain ⟨q3,hq3⟩:=ii hq2
 obtain ⟨q4,hq4⟩:=ii hq3
 obtain ⟨q5,hq5⟩:=ii hq4
 obtain ⟨q6,hq6⟩:=ii hq5
 obtain ⟨q7,hq7⟩:=ii hq6
 constructor
 ·have ht:=qX (k:= .u8) (zs:=[0,1,56,2,57,49,28,3,61,58,42,50,38,29,17,4,62,47,59,36,45,43,51,22,53,39,33,30,24,18,12,5,63,55,48,27,60,41,37,16,46,35,44,21,52,32,23,11,54,26,40,15,34,20,31,10,25,14,19,9,13,8,7,6]) (g:=7) (t:=334) (e:=5) (n:=64)
   (by kernel_rfl) (by kernel_rfl) (by kernel_rfl) (by kernel_rfl) (by kernel_rfl) (by kernel_rfl) hq1
  exact Lib.TabIs.cell ht (by kernel_rfl) 1 (by decide)
 ·rw [←Ib] at hq7
  exact qX (k:= .u8) (zs:=zAA) (g:=0) (t:=262) (e:=5) (n:=256) (by kernel_rfl) (by kernel_rfl) (by kernel_rfl) (by kernel_rfl) (by kernel_rfl) (by kernel_rfl) hq7
end Go.Proofs.YthhijgcfbjcgiaaGreatDoor

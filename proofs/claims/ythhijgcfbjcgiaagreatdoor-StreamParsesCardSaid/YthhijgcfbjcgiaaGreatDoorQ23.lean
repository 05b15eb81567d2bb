/- TsLaid21 -/
import Derived.Test.YthhijgcfbjcgiaaGreatDoorQ08
import Derived.Test.YthhijgcfbjcgiaaGreatDoorQ22
namespace Go.Proofs.YthhijgcfbjcgiaaGreatDoor
open Go Go.RowKit
open Go.Lib renaming asciiSpaceTab→O
open Go.Proofs.Tryz renaming prog→U
theorem IK:Lib.tabData .u8 O=(Rows.laid_strings_asciiSpace:DataW Unit):=by kernel_rfl
theorem DC {W:World}(h:laidMetH U Rows.streamKnownRow.laid W):Tz W/\Ts W:=by
 have T:laidMet U Rows.streamKnownRow.laid W:=h;obtain⟨ps,D,_⟩:=T;have j:DataW.LaidVars U W (("math/bits.deBruijn32tab",Rows.laid_math_bits_deBruijn32tab)::("math/bits.deBruijn64tab",Rows.laid_math_bits_deBruijn64tab)::("internal/strconv.uint64pow10",Rows.laid_internal_strconv_uint64pow10)::("unicode/utf8.acceptRanges",Rows.laid_unicode_utf8_acceptRanges)::("strconv.ErrRange",Rows.laid_strconv_ErrRange)::("strconv.ErrSyntax",Rows.laid_strconv_ErrSyntax)::("unicode.White_Space",Rows.laid_unicode_White_Space)::("strings.asciiSpace",Rows.laid_strings_asciiSpace)::("unicode/utf8.first",Rows.laid_unicode_utf8_first)::[]) ps:=D;obtain⟨q1,B⟩:=iz j;obtain⟨q2,G⟩:=iz B;obtain⟨q3,I⟩:=iz G;obtain⟨q4,K⟩:=iz I;obtain⟨q5,M⟩:=iz K;obtain⟨q6,N⟩:=iz M;obtain⟨q7,C⟩:=iz N;constructor
 ·have ht:=rg (k:= .u8) (zs:=[0,1,56,2,57,49,28,3,61,58,42,50,38,29,17,4,62,47,59,36,45,43,51,22,53,39,33,30,24,18,12,5,63,55,48,27,60,41,37,16,46,35,44,21,52,32,23,11,54,26,40,15,34,20,31,10,25,14,19,9,13,8,7,6]) (g:=7) (t:=334) (e:=5) (n:=64)
   (by kernel_rfl) (by kernel_rfl) (by kernel_rfl) (by kernel_rfl) (by kernel_rfl) (by kernel_rfl) B
  exact Lib.TabIs.cell ht (by kernel_rfl) 1 (by decide)
 ·rw[<-IK] at C
  exact rg (k:= .u8) (zs:=O) (g:=0) (t:=262) (e:=5) (n:=256) (by kernel_rfl) (by kernel_rfl) (by kernel_rfl) (by kernel_rfl) (by kernel_rfl) (by kernel_rfl) C
end Go.Proofs.YthhijgcfbjcgiaaGreatDoor

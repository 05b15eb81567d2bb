/- RAdr -/
import Derived.Test.YthhijgcfbjcgiaaGreatDoorQ02
import Derived.Test.YthhijgcfbjcgiaaGreatDoorQ11
namespace Go.Proofs.YthhijgcfbjcgiaaGreatDoor
open Go Go.RowKit
set_option maxHeartbeats 16000000
set_option maxRecDepth 100000
open Go.Lib renaming hid→O
open Tryz renaming ntmps149→U,func149→Z,prog→V
open Go.IntKind renaming i64→J
open Go.Value renaming int→OA
open Go.Ending renaming returned→OB
open Nat renaming le_refl→OC
theorem zO (w:World):Calls V 115 #[] w λe w'=>∃A,e=OB (.slice A 35 35)/\Sl w' A (fi.map aM)/\Below w.heap.size w w':=by
 go_enter Tryz.func115,Tryz.ntmps115
 go_wp2_with fail
 go_ret;exact⟨_,rfl,ab.sl (ab.new w 9 (fi.map aM).toArray) 0,(Below.refl _ _).alloc (OC _) _⟩
theorem De (a d:Int)(w:World)(N: -9223372036854775808<=a/\a<=9223372036854775807)(hd: -9223372036854775808<=d/\d<=9223372036854775807):
  Calls V 149 #[OA J a,OA J d] w λe w'=>e=OB (.tuple #[OA J (ks a d).1,OA J (ks a d).2])/\w=w':=by
 unfold ks
 by_cases j:a<0
 ·have G:decide (a<0)=true:=by simpa using j
  rw[if_pos (by omega)]
  go_enter Z,U
  go_wp2;go_ret2;exact⟨rfl,rfl⟩
 have G:decide (a<0)=false:=by simpa using j
 by_cases h2:33<a
 ·have I:decide (33<a)=true:=by simpa using h2
  rw[if_pos (by omega)]
  go_enter Z,U
  go_wp2;go_ret2;exact⟨rfl,rfl⟩
 have I:decide (33<a)=false:=by simpa using h2
 by_cases B:d<1
 ·have K:decide (d<1)=true:=by simpa using B
  rw[if_pos (by omega)]
  go_enter Z,U
  go_wp2;go_ret2;exact⟨rfl,rfl⟩
 have K:decide (d<1)=false:=by simpa using B
 by_cases C:33<d
 ·have M:decide (33<d)=true:=by simpa using C
  rw[if_pos (by omega)]
  go_enter Z,U
  go_wp2;go_ret2;exact⟨rfl,rfl⟩
 have M:decide (33<d)=false:=by simpa using C
 rw[if_neg (by omega)]
 by_cases D:33<a+d
 ·rw[if_pos D]
  go_enter Z,U
  go_wp2;go_ret2;exact⟨rfl,rfl⟩
 ·rw[if_neg D]
  go_enter Z,U
  go_wp2;go_ret2;exact⟨rfl,rfl⟩
def DD (n:Nat):List Int:=(List.range n).map λ(k:Nat)=>(k:Int)
theorem Fr (n:Nat):(DD (n+1)).map aE=(DD n).map aE++[aE n]:=by simp[DD,List.range_succ]
theorem wA (w:World):Calls V 190 #[] w (DR 35 (mi.map aE) w):=by
 go_enter Tryz.func190,Tryz.ntmps190
 go_wp2_with fail
 go_loopg [1,2] 35 (λg v i=> λwr=>∃(j:Nat),j+g=35/\i=OA J (j:Int)/\wr.ownsRow w.heap.size 3 1 v j ((DD j).map aE)/\Below w.heap.size w wr)
 case atStart=>exact⟨0,by omega,rfl,World.ownsRow_nil _ _ _ _,Below.refl _ _⟩
 case round=>
  obtain⟨j,hj,rfl,K,B⟩:=hrel
  cases gk with
  |zero=>
   obtain rfl:j=35:=by omega
   obtain⟨A,c,rfl,T⟩:=cw K;go_wp2_with fail
   go_ret;exact⟨A,c,rfl,T,B⟩
  |succ g=>
   have aC:(j:Int)<=34:=(by omega);have M:=O K;clear K;have aB:=B.size;go_wp2_with (at_builtin;refine cr gt rfl rfl rfl (M.out.alloc _) rfl (m:=1) (news:=[aE j]) rfl (ab.sl (ab.new wr 3 #[aE j]) 0) (by intro u N;simp[aE] at N;subst N;rfl) (by omega) (by simp;omega) ?_;intro v1 w1 D C _;have I:=O D;clear D;have G:=O C;clear C)
   go_roundg g
   case measure=>omega
   case rel=>
    refine⟨j+1,by omega,rfl,?_,eF (B.alloc B.size _) (M.out.alloc _) G.out (by have:=B.size;simp;omega) (OC _)⟩;rw[Fr];exact I.out
theorem ES (A:Option Addr)(n c:Nat)(l:List UInt8)(i:Int)(w:World)(N:Sl w A (l.map af))(hn:List.length l=n)(hsz:n<=2 ^ 47)(hi: -9223372036854775808<=i/\i<=9223372036854775807):
  Calls V 148 #[.slice A n c,OA J i] w λe w'=>e=OB (.tuple #[OA J (dz l i).1,OA J (dz l i).2.1,OA J (dz l i).2.2])/\Below w.heap.size w w':=by
 unfold dz;have Gt:=O (λ(b:Nat) (W:World) (h:kB W b 35 fi mi) (N:Sl W A (l.map af))=>kL b A n 35 c fi mi l i W h rfl rfl (by decide) (by kernel_rfl) N hn hsz hi);have HA:=O N;clear N hn;generalize ac fi mi l i=R at Gt;obtain⟨C,r2,T⟩:=R
 go_enter Tryz.func148,Tryz.ntmps148
 go_wp2_with fail
 refine(zO w).mono ?_;rintro e w1 ⟨X,rfl,hX,D⟩;have B1:=O D;have HX:=O hX;clear D hX;go_wp2_with fail
 refine(wA w1).mono ?_;rintro e w2 ⟨Y,y,rfl,hY,B⟩;have aB:=O (HX.out.below B);have B2:=O (B1.out.trans (B.mono B1.out.size));have HY:=O hY;clear B hY B1;go_wp2_with fail
 refine(jC X Y 35 35 y fi mi w2 aB.out HY.out rfl rfl (by decide) (by decide) (by kernel_rfl) (by kernel_rfl)).mono ?_;rintro e w3 ⟨b,rfl,hT,G⟩;have M:=O (B2.out.trans (G.mono B2.out.size));have HT:=O hT;clear G hT B2;go_wp2_with fail
 refine(Gt.out b w3 HT.out (HA.out.below M.out)).mono ?_;rintro e w4 ⟨rfl,I⟩;have B4:=O (M.out.trans (I.mono M.out.size));clear I M
 by_cases j:C=34
 ·have q:(C==34)=true:=by simpa using j
  have K:kr (C,r2,T)=(34,0,T):=(by simp[kr,j]);have Hf:=O K;clear K j;go_wp2_with fail
  go_ret3;rw[Hf.out];exact⟨rfl,B4.out⟩
 ·have q:(C==34)=false:=by simpa using j
  have K:kr (C,r2,T)=(C,r2,T):=(by simp[kr,j]);have Hf:=O K;clear K j;go_wp2_with fail
  go_ret3;rw[Hf.out];exact⟨rfl,B4.out⟩
end Go.Proofs.YthhijgcfbjcgiaaGreatDoor

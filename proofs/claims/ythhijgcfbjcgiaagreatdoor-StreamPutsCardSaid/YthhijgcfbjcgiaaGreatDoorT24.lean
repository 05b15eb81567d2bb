/- Prs -/
import Derived.Test.YthhijgcfbjcgiaaGreatDoorT03
import Derived.Deep.LoopGhost
import Derived.Laws.PanicsMore
namespace Go.Proofs.YthhijgcfbjcgiaaGreatDoor
open Go Go.RowKit
attribute [local go_sem] Oper.semAt_some
open Go.Lib renaming hid→O
open Tryz renaming ntmps87→U,func87→J,prog→OC
open Go.IntKind renaming i64→Z,i64→X,wrap_i64→OB
open Go.Value renaming int→V,pointer→OD
open Int renaming toNat_natCast→Y,natCast_zero→OA
open Go.Ending renaming returned→OE
set_option maxRecDepth 100000 in
set_option maxHeartbeats 2000000 in
theorem qW (g:Nat)(A:Option Addr)(n c:Nat)(l:List UInt8)(p:Nat)(sv:Value)(w:World)(hb:ab w g 77 #[.slice A n c,V Z (p:Int),sv])(hA:Sl w A (l.map ag))(hn:List.length l=n)(hsz:n<=2 ^ 40)(hp:p<=8*n):
  Calls OC 47 #[OD (some ⟨g,0,none⟩)] w λe w'=>e=OE (.bool (eY l p))/\w=w':=by
 have z0:=hb.cell 0;have z1:=hb.cell 1;(try dsimp only at z0 z1);have HA:=O hA;have HN:=O hn;have M:=O (λW=>di A n c W (by omega));obtain⟨r,hr⟩:∃r,eY l p=r:=⟨_,rfl⟩;rw[hr];have HR:=O hr;clear hA hn hb hr
 go_enter Tryz.func47,Tryz.ntmps47
 go_wp2_with fail
 go_loopg [3] (8*n - p) (λgk i=> λwr=>∃q:Nat,q+gk=8*n/\i=V Z (q:Int)/\Hid (eY l q=r)/\wr=w)
 case atStart=>exact⟨p,by omega,rfl,HR,rfl⟩
 case round=>
  obtain⟨q,hq,rfl,HO,rfl⟩:=hrel
  cases gk with
  |zero=>
   have bM:¬((q:Int)<8*(n:Int)):=(by omega);have cI:r=true:=(by rw[<-HO.out];exact F6 (by rw[HN.out];omega));subst cI;clear hq;go_wp2_with (go_at_call 84;refine(M.out _).mono ?_;rintro e G ⟨rfl,rfl⟩)
   go_ret;exact⟨rfl,rfl⟩
  |succ k=>
   have bM:((q:Int)<8*(n:Int)):=(by omega);have eE:X.wrap (8*(n:Int) - (q:Int))=8*(n:Int) - (q:Int):=by rw[OB];omega
   obtain⟨m,hm,T,K,cE,j⟩:∃m:Nat,((8*n - q<32/\m=8*n - q)\/(32<=8*n - q/\m=32))/\1<=m/\q+m<=8*n/\m<=32/\(m:Int)=if 8*n - q<32 then 8*(n:Int) - (q:Int) else 32:=by
    rcases Nat.lt_or_ge (8*n - q) 32 with h|h
    ·exact⟨8*n - q,.inl ⟨h,rfl⟩,by omega,by omega,by omega,by rw[if_pos h];omega⟩
    ·exact⟨32,.inr ⟨h,rfl⟩,by omega,by omega,by omega,by rw[if_neg (by omega)];rfl⟩
   have av:X.wrap ((q:Int)+(m:Int))=((q+m:Nat):Int):=(by rw[OB];omega);have C:=O (kD A n c l (q:Int) (m:Int) wr HA.out HN.out (by omega) (by omega) (by omega) (by omega) (by omega));rw[Y,Y] at C;have HQ:Hid (q+(k+1)=8*n):=O hq;have aJ:=O K;have dy:=O T
   have B:(aB l q m=0/\eY l (q+m)=r)\/(aB l q m≠0/\r=false):=by
    by_cases B:aB l q m=0
    ·exact .inl ⟨B,(Ek B).trans HO.out⟩
    ·exact .inr ⟨B,by rw[<-HO.out];exact F7 (by rw[HN.out];exact K) B⟩
   generalize aB l q m=x at*;clear cE hq K T;rcases hm with⟨D,rfl⟩|⟨D,rfl⟩
   ·have N:(8*(n:Int) - (q:Int))<32:=by omega
    rw[if_pos D] at j;rw[j] at C av;have dO:=O j;clear D j;rcases B with⟨rfl,ho⟩|⟨B,rfl⟩
    ·have I:=O ho
     simp only[OA] at C;clear ho;go_wp2_with (first|(go_at_call 84;refine(M.out _).mono ?_;rintro e G ⟨rfl,rfl⟩)|(go_at_call 56;refine C.out.mono ?_;rintro e G ⟨rfl,rfl⟩))
     go_roundg 0
     case measure=>omega
     case rel=>exact⟨q+(8*n - q),by have:=HQ.out;omega,rfl,I,rfl⟩
    ·have dv:(((x:Nat):Int) !=0)=true:=by simp;omega
     clear B;go_wp2_with (first|(go_at_call 84;refine(M.out _).mono ?_;rintro e G ⟨rfl,rfl⟩)|(go_at_call 56;refine C.out.mono ?_;rintro e G ⟨rfl,rfl⟩))
     go_ret;exact⟨rfl,rfl⟩
   ·have N:¬(8*(n:Int) - (q:Int))<32:=by omega
    simp only[Int.cast_ofNat_Int] at C av;clear D j;rcases B with⟨rfl,ho⟩|⟨B,rfl⟩
    ·have I:=O ho
     simp only[OA] at C;clear ho;go_wp2_with (first|(go_at_call 84;refine(M.out _).mono ?_;rintro e G ⟨rfl,rfl⟩)|(go_at_call 56;refine C.out.mono ?_;rintro e G ⟨rfl,rfl⟩))
     go_roundg (8*n - (q+32))
     case measure=>have:=HQ.out;omega
     case rel=>exact⟨q+32,by have:=aJ.out;omega,rfl,I,rfl⟩
    ·have dv:(((x:Nat):Int) !=0)=true:=by simp;omega
     clear B;go_wp2_with (first|(go_at_call 84;refine(M.out _).mono ?_;rintro e G ⟨rfl,rfl⟩)|(go_at_call 56;refine C.out.mono ?_;rintro e G ⟨rfl,rfl⟩))
     go_ret;exact⟨rfl,rfl⟩
def ie (er:Int) (e:Ending):Prop:=e= .panicked [{v:= .iface 79 (.agg #[V Z er]),recovered:=false}]
theorem eZ (g:Nat)(B C:Value)(p:Nat)(k:Int)(w:World)(j:ab w g 77 #[B,V Z (p:Int),C])(I:X.wrap ((p:Int)+k)=(p:Int)+k):
  Calls OC 87 #[OD (some ⟨g,0,none⟩),V Z k,V Z 0] w λe w'=>(∃u,e=OE u)/\w'=w.setCell ⟨g,1,none⟩ (V Z ((p:Int)+k)):=by
 have D:=j.cell 1;have G:=j.frozen 1;(try dsimp only at D G);clear j
 go_enter J,U
 go_wp2_with fail
 refine bodyPost_end (results_none rfl _ _ _) rfl ⟨⟨_,rfl⟩,rfl⟩
theorem dM (g:Nat)(k e:Int)(he:e≠0)(w:World):
  Calls OC 87 #[OD (some ⟨g,0,none⟩),V Z k,V Z e] w λx w'=>ie (jw e) x/\w'=w:=by
 have C:(e !=0)=true:=by simpa using he
 unfold ie jw
 cases B:(e==5) with
 |true=>
  have j:e=5:=(by simpa using B);subst j;rw[if_pos rfl]
  go_enter J,U
  go_wp2_with fail
  exact⟨rfl,rfl,rfl⟩
 |false=>
  have j:¬e=5:=(by simpa using B);rw[if_neg j];clear j he
  go_enter J,U
  go_wp2_with fail
  exact⟨rfl,rfl,rfl⟩
end Go.Proofs.YthhijgcfbjcgiaaGreatDoor

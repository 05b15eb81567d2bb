/- MOk, ChkS, SameS, Ref19gE -/
import Derived.Test.YthhijgcfbjcgiaaGreatDoorQ42
import Derived.Test.YthhijgcfbjcgiaaGreatDoorQ38
import Derived.Test.YthhijgcfbjcgiaaGreatDoorQ21
namespace Go.Proofs.YthhijgcfbjcgiaaGreatDoor
section
open Go Go.RowKit

end
open Go Go.RowKit
attribute [local go_sem] Oper.semAt_some
set_option maxHeartbeats 16000000
set_option maxRecDepth 100000
open Go.Lib renaming hid→O
open Go.Value renaming slice→U,int→Y,bool→OX
open Go.IntKind renaming i64→Z,wrap_i64→OO,i64→OT
open List renaming length→X,setIfInBounds_toArray→J,set_cons_succ→OA,set_cons_zero→OB,getElem?_eq_getElem→OE,getElem_mem→OF,drop_succ_cons→OG,getElem?_map→OP,drop_eq_getElem_cons→OQ,length_map→OR,drop_of_length_le→OU,drop_zero→OW,drop_nil→OZ
open Go.Obj renaming cells→OC
open Go.Proofs.YthhijgcfbjcgiaaGreatDoor.cb renaming take→OD,step→Of
open Tryz renaming prog→OH,results150→OI,ntmps150→OK,func150→OM,ntmps15→Oa,func15→Oc,ntmps193→Od,func193→Oe
open Nat renaming le_refl→OJ,le_succ→Ob
open Bool renaming false_eq_true→OL,false_and→OV,true_and→OY
open Go.Ending renaming returned→ON
open Option renaming map_some→OS
theorem Cp {f:Int}{ns:List Int}{gs:List ig}(j:Nat)(B:j<X ns)(h2:j<X gs):fA f (ns.drop j) (gs.drop j)=(kU f ns[j] gs[j]&&fA f (ns.drop (j+1)) (gs.drop (j+1))):=by
 rw[OQ B,OQ h2,fA]
theorem yF (s:bu)(w:World)(hs:ii w s)(hS:iZ s):Calls OH 15 #[iF s] w λe w'=>e=ON (Y Z (if ef s.s then 0 else 2))/\Below w.heap.size w w':=by
 obtain⟨tm,ty,sp,sA,sc,gs,A,c⟩:=s;obtain⟨L0,Iq,KI⟩:=hs;obtain⟨KX,KY,KJ⟩:=hS;dsimp only at L0 Iq KI KX KY KJ;unfold iF ef bu.s;dsimp only;have KQ:=O Iq;have L5:=O KI;have La:=O KJ;obtain⟨rX,N⟩:∃b,(sH ⟨tm,ty,sp⟩&&fA (dv ty) (aJ (dv ty)) (gs.map (·.g)))=b:=⟨_,rfl⟩;rw[N];have KW:sH ⟨tm,ty,sp⟩=xF tm ty (X sp):=rfl;rw[KW] at N;have C1:=O (λW=>vm tm ty sA (X sp) sc W);have C2:=O (λW=>sU tm ty sA (X sp) sc W);have dY:dv ty=0\/dv ty=1:=by unfold dv;omega
 obtain⟨f,hf⟩:∃f,dv ty=f:=⟨_,rfl⟩;rw[hf] at N C2 dY;have C3:=O (λW=>ma f dY W);obtain⟨k,hk⟩:∃k,X sp=k:=⟨_,rfl⟩;obtain⟨L,hL⟩:∃L,X gs=L:=⟨_,rfl⟩;obtain⟨K,hK⟩:∃K,(aJ f).length=K:=⟨_,rfl⟩;have Lf:K<=12:=by rw[<-hK];exact iw f
 rw[hk] at C1 C2 N;rw[hK] at C3;rw[hk,hL];have K3:=O N;have HL:=O hL;have Kr:=O hK;have KL:=O dY;rw[hL] at KY;have KR:Below w.heap.size w (w.alloc (OC #[Y Z tm,Y Z ty,U sA k sc,U A L c] 35)):=(Below.refl _ _).alloc (OJ _) _;obtain⟨gg,dD⟩:∃gg,w.heap.size=gg:=⟨_,rfl⟩;have KT:ab (w.alloc (OC #[Y Z tm,Y Z ty,U sA k sc,U A L c] 35)) gg 35 #[Y Z tm,Y Z ty,U sA k sc,U A L c]:=aH (ab.new _ _ _) dD;have fW:=O KR;have J2:=O KT;clear L0 Iq KI KX KJ KW dY hf N hk hL hK KR KT
 cases ja:xF tm ty k with
 |false=>
  have I:=K3.out;rw[ja,OV] at I;subst I;rw[ja] at C1;simp only[OL,if_false] at C1⊢;clear ja dD
  go_enter Oc,Oa
  go_wp2_with (go_at_call 36;refine(C1.out _).mono ?_;rintro e w2 ⟨rfl,M⟩;have aC:=O (fW.out.trans (M.mono fW.out.size));clear M)
  go_ret;exact⟨rfl,aC.out⟩
 |true=>
 rw[ja] at C1;simp only[if_true] at C1;have KO:Hid (fA f (aJ f) (gs.map (·.g))=rX):=O (by rw[<-K3.out,ja,OY]);clear ja;obtain⟨V,hV⟩:∃V:Int,(if rX then(0:Int) else 2)=V:=⟨_,rfl⟩;rw[hV];have HV:=O hV;clear hV
 cases KG:((K:Int) !=(L:Int)) with
 |true=>
  have Lb:V=2:=by
   have Le:K≠L:=(by intro h;subst h;simp at KG);rw[<-HV.out]
   cases hR:rX with
   |false=>rfl
   |true=>
    have h:=KO.out;rw[hR] at h;have:=(mH _ _ h).2;rw[OR,HL.out,Kr.out] at this;exact absurd this.symm Le
  subst Lb
  go_enter Oc,Oa
  go_wp2_with (first|(go_at_call 36;refine(C1.out _).mono ?_;rintro e w2 ⟨rfl,M⟩;have aC:=O (fW.out.trans (M.mono fW.out.size));have bE:=O (J2.out.below M J2.out.lt);have y:=bE.out;have y0:=y.cell 0;have y1:=y.cell 1;have y2:=y.cell 2;(try dsimp only at y0 y1 y2);clear M y)|(go_at_call 37;refine(C2.out _).mono ?_;rintro e w3 ⟨rfl,cz⟩;have gy:=O (aC.out.trans (cz.mono aC.out.size));have kz:=O (bE.out.below cz bE.out.lt);clear cz y0 y1 y2)|(go_at_call 38;refine(C3.out _).mono ?_;rintro e w4 ⟨Al,cl,rfl,Io,dt⟩;have K8:=O (gy.out.trans (dt.mono gy.out.size));have K9:=O (kz.out.below dt kz.out.lt);have KN:=O Io;have y3:=K9.out.cell 3;(try dsimp only at y3);clear dt Io))
  go_ret;exact⟨rfl,K8.out⟩
 |false=>
  have KU:K=L:=(by have h:(K:Int)=(L:Int):=(by simpa using KG);omega);subst KU;clear KG
  go_enter Oc,Oa
  go_wp2_with (first|(go_at_call 36;refine(C1.out _).mono ?_;rintro e w2 ⟨rfl,M⟩;have aC:=O (fW.out.trans (M.mono fW.out.size));have bE:=O (J2.out.below M J2.out.lt);have y:=bE.out;have y0:=y.cell 0;have y1:=y.cell 1;have y2:=y.cell 2;(try dsimp only at y0 y1 y2);clear M y)|(go_at_call 37;refine(C2.out _).mono ?_;rintro e w3 ⟨rfl,cz⟩;have gy:=O (aC.out.trans (cz.mono aC.out.size));have kz:=O (bE.out.below cz bE.out.lt);clear cz y0 y1 y2)|(go_at_call 38;refine(C3.out _).mono ?_;rintro e w4 ⟨Al,cl,rfl,Io,dt⟩;have K8:=O (gy.out.trans (dt.mono gy.out.size));have K9:=O (kz.out.below dt kz.out.lt);have KN:=O Io;have y3:=K9.out.cell 3;(try dsimp only at y3);clear dt Io))
  go_loopg [29] K (λgk i=> λwr=>∃(j:Nat),j+gk=K/\i=Y Z (j:Int)/\Hid (fA f ((aJ f).drop j) ((gs.map (·.g)).drop j)=rX)/\Hid (Below w.heap.size w wr)/\Hid (wr.ownsRow w.heap.size 3 1 (U Al K cl) K ((aJ f).map aE)))
  case atStart=>exact⟨0,by omega,rfl,KO,K8,O (bX KN.out gy.out.size)⟩
  case round=>
   obtain⟨j,hj,rfl,HJ,HB,KC⟩:=hrel
   cases gk with
   |zero=>
    have Ld:¬((j:Int)<(K:Int)):=(by omega);have I:=HJ.out;rw[OU (by have:=Kr.out;omega),OU (by rw[OR];have:=HL.out;omega)] at I;have I:true=rX:=I;have hv:=HV.out;rw[<-I,if_pos rfl] at hv;subst hv;clear hj I;go_wp2_with fail
    go_ret;exact⟨rfl,by first|exact HB.out|(rw[<-dD];exact HB.out)⟩
   |succ gk=>
    have Ld:((j:Int)<(K:Int)):=(by omega);have Lg:¬((j:Int)<0):=(by omega);have K1:j<(X gs):=(by rw[HL.out];omega);have K0:j<(aJ f).length:=(by rw[Kr.out];omega);obtain⟨ad,rfl,_,c0,c1,c2,c3⟩:=nL (KQ.out.below HB.out) j K1;have eE:=OF K1;have Ip:=HJ.out;rw[Cp j K0 (by rw[OR];exact K1),List.getElem_map] at Ip;obtain⟨G,hG⟩:∃G,gs[j]=G:=⟨_,rfl⟩;obtain⟨nm,K2⟩:∃x,(aJ f)[j]=x:=⟨_,rfl⟩;have K6:nm∈aJ f:=(by rw[<-K2];exact OF K0);rw[hG,K2,Ei] at Ip;rw[hG] at eE c0 c1 c2 c3;obtain⟨al,Lc,K4,KH⟩:=(fM KC.out).int j K0;rw[K2] at KH;have KV:=(L5.out _ eE).below HB.out;have KZ:=La.out _ eE;have Lh:OT.wrap ((j:Int)+1)=(j:Int)+1:=(by rw[OO];omega);have KE:=O Ip;have L6:=O hj;obtain⟨num,qu,B,T,gc,ms,mA,mc⟩:=G;dsimp only at c0 c1 c2 c3 Ip;have wj:=((Below.refl _ wr).alloc (OJ _) (OC #[Y Z num,Y Z qu,U T (X B) gc,U mA (X ms) mc] 51)).drew;have L7:=O (show ab (wr.alloc (OC #[Y Z num,Y Z qu,U T (X B) gc,U mA (X ms) mc] 51)).drew wr.heap.size 51 #[Y Z num,Y Z qu,U T (X B) gc,U mA (X ms) mc] from ab.new wr _ _);have gJ:=O (HB.out.trans (wj.mono HB.out.size));have L8:=O (cC KC.out wj (OJ _));have K5:(wr.alloc (OC #[Y Z num,Y Z qu,U T (X B) gc,U mA (X ms) mc] 51)).drew.cell? (al.add j)=some (Y Z nm):=(wj.cell (by rw[dN];exact K4)).trans KH;have L4:=O K5
    have CG:num=nm->Hid (Calls OH 39 #[Y Z f,po ⟨num,qu,B,T,gc,ms,mA,mc⟩] (wr.alloc (OC #[Y Z num,Y Z qu,U T (X B) gc,U mA (X ms) mc] 51)).drew λe w'=>e=ON (OX (qs f ⟨num,qu,B,T,gc,ms,mA,mc⟩))/\Below (wr.alloc (OC #[Y Z num,Y Z qu,U T (X B) gc,U mA (X ms) mc] 51)).drew.heap.size (wr.alloc (OC #[Y Z num,Y Z qu,U T (X B) gc,U mA (X ms) mc] 51)).drew w'):= λe=>
     O (Ab f ⟨num,qu,B,T,gc,ms,mA,mc⟩ _ KL.out (by show num∈aJ f;rw[e];exact K6) (KV.below wj) KZ)
    subst Lc;unfold po at CG;dsimp only at CG;generalize qs f ⟨num,qu,B,T,gc,ms,mA,mc⟩=gd at*;have KF:Hid (ab (wr.alloc (OC #[Y Z num,Y Z qu,U T (X B) gc,U mA (X ms) mc] 51)).drew wr.heap.size 51 #[Y Z num,Y Z qu,U T (X B) gc,U mA (X ms) mc]/\(wr.alloc (OC #[Y Z num,Y Z qu,U T (X B) gc,U mA (X ms) mc] 51)).drew.cell? (al.add j)=some (Y Z nm)):=O ⟨L7.out,L4.out⟩;clear eE hG K2 K6 KV KZ wj hj K1 K0 HJ HB KC KH K5 K4 Ip
    by_cases D:num=nm
    ·have KK:=CG D
     have hq:(num !=nm)=false:=(by simpa using D);clear CG;have dE:(num==nm)=true:=by simpa using D
     cases gd with
     |false=>
      have I:=KE.out;rw[dE] at I;simp only[OY,OV] at I;have hv:=HV.out;rw[<-I] at hv;simp only[OL,if_false] at hv;subst hv;clear D I dE;go_wp2_with fail
      refine iV (λw'=>ab w' wr.heap.size 51 #[Y Z num,Y Z qu,U T (X B) gc,U mA (X ms) mc]/\w'.cell? (al.add j)=some (Y Z nm)) 10 [(0,true),(1,true),(2,true),(3,true),(4,true),(5,true),(6,true),(7,true),(8,true),(9,true)] (KF.out) (λPE aB=>?_)
      iterate 10
       refine fe (v:=?_) rfl (by rfl) ?_ ?_
       rotate_left
       ·intro _ C;(try dsimp only at C);have a0:=C.1.cell 0;have a1:=C.2;have a2:=C.1.cell 1;have a3:=C.1.cell 2;have a4:=C.1.cell 3;(try dsimp only at a0 a2 a3 a4);go_simp;(try with_reducible rfl)
       simp only[J,OB,OA]
      (refine aB _ _ ?_;simp only[OG,OW];clear aB PE)
      go_wp2_with (go_at_call 39;refine KK.out.mono ?_;rintro e w5 ⟨rfl,hU⟩;have jT:=O (gJ.out.trans (hU.mono gJ.out.size));clear hU)
      go_ret;exact⟨rfl,by first|exact jT.out|(rw[<-dD];exact jT.out)⟩
     |true=>
      have I:=KE.out;rw[dE] at I;simp only[OY] at I;have L9:=O I;clear D I dE;go_wp2_with fail
      refine iV (λw'=>ab w' wr.heap.size 51 #[Y Z num,Y Z qu,U T (X B) gc,U mA (X ms) mc]/\w'.cell? (al.add j)=some (Y Z nm)) 10 [(0,true),(1,true),(2,true),(3,true),(4,true),(5,true),(6,true),(7,true),(8,true),(9,true)] (KF.out) (λPE aB=>?_)
      iterate 10
       refine fe (v:=?_) rfl (by rfl) ?_ ?_
       rotate_left
       ·intro _ C;(try dsimp only at C);have a0:=C.1.cell 0;have a1:=C.2;have a2:=C.1.cell 1;have a3:=C.1.cell 2;have a4:=C.1.cell 3;(try dsimp only at a0 a2 a3 a4);go_simp;(try with_reducible rfl)
       simp only[J,OB,OA]
      (refine aB _ _ ?_;simp only[OG,OW];clear aB PE)
      go_wp2_with (go_at_call 39;refine KK.out.mono ?_;rintro e w5 ⟨rfl,hU⟩;have jT:=O (gJ.out.trans (hU.mono gJ.out.size));have KM:=O (cC L8.out hU (OJ _));clear hU)
      go_roundg gk
      case measure=>omega
      case rel=>exact⟨j+1,by have:=L6.out;omega,rfl,L9,O (by first|exact jT.out|(rw[<-dD];exact jT.out)),O (by first|exact KM.out|(rw[<-dD];exact KM.out))⟩
    ·have hq:(num !=nm)=true:=by simpa using D
     have I:=KE.out;have dE:(num==nm)=false:=(by simpa using D);rw[dE] at I;simp only[OV] at I;have hv:=HV.out;rw[<-I] at hv;simp only[OL,if_false] at hv;subst hv;clear CG D I dE;go_wp2_with fail
     refine iV (λw'=>ab w' wr.heap.size 51 #[Y Z num,Y Z qu,U T (X B) gc,U mA (X ms) mc]/\w'.cell? (al.add j)=some (Y Z nm)) 10 [(0,true),(1,true),(2,true),(3,true),(4,true),(5,true),(6,true),(7,true),(8,true),(9,true)] (KF.out) (λPE aB=>?_)
     iterate 8
      refine fe (v:=?_) rfl (by rfl) ?_ ?_
      rotate_left
      ·intro _ C;(try dsimp only at C);have a0:=C.1.cell 0;have a1:=C.2;(try dsimp only at a0);go_simp;(try with_reducible rfl)
      simp only[J,OB,OA]
     iterate 2
      refine vo rfl (by rfl) ?_
      simp only[J,OB,OA]
     (refine aB _ _ ?_;simp only[OG,OW];clear aB PE)
     go_wp2_with fail
     go_ret;exact⟨rfl,by first|exact gJ.out|(rw[<-dD];exact gJ.out)⟩
theorem kV (A B:Option Addr)(n m c d:Nat)(l k:List UInt8)(w:World)(D:Sl w A (l.map af))(G:Sl w B (k.map af))(j:X l=n)(I:X k=m):
  Calls OH 14 #[U A n c,U B m d] w λe w'=>e=ON (OX (l==k))/\w=w':=by
 have C:∀(A:Option Addr)(l:List UInt8)(n c:Nat),Sl w A (l.map af)->X l=n->(convert 25 9 (U A n c)).run OH w= .ok (.string (bs l)) w:= λA l n c h j=>iY (P:=OH) 25 9 5 (by kernel_rfl) (by kernel_rfl) (by kernel_rfl) h n c j;have K:=C A l n c D j;have M:=C B k m d G I;clear C D G j I
 go_enter Tryz.func14,Tryz.ntmps14
 go_wp2_with fail
 go_ret;exact⟨rfl,rfl⟩
theorem xN (tm ty:Int)(l:List UInt8)(A B:Option Addr)(n c d:Nat)(w:World)(G:Sl w A (l.map af))(I:Sl w B (l.map af))(D:X l=n):
  Calls OH 97 #[.agg #[Y Z tm,Y Z ty,U A n c],.agg #[Y Z tm,Y Z ty,U B n d]] w λe w'=>e=ON (OX true)/\Below w.heap.size w w':=by
 have j:Below w.heap.size w ((w.alloc (OC #[Y Z tm,Y Z ty,U A n c] 32)).alloc (OC #[Y Z tm,Y Z ty,U B n d] 32)):=((Below.refl _ _).alloc (OJ _) _).alloc (by simp) _;have C:=O (kV A B n n c d l l _ (G.below j) (I.below j) D D);rw[beq_self_eq_true] at C;have K:=O j;clear G I D j
 go_enter Tryz.func97,Tryz.ntmps97
 go_wp2_with (go_at_call 14;refine C.out.mono ?_;rintro e M ⟨rfl,rfl⟩)
 go_ret;exact⟨rfl,K.out⟩
theorem wt (p q:cJ)(w:World)(he:p.g=q.g)(hp:mE w p)(hq:mE w q)(KG:wL p)(KH:wL q):
  Calls OH 98 #[po p,po q] w λe w'=>e=ON (OX true)/\Below w.heap.size w w':=by
 obtain⟨num,qu,sp,sA,sc,xs,A,c⟩:=p;obtain⟨KJ,KL,KM,sB,sd,ys,B,d⟩:=q;unfold cJ.g at he;dsimp only at he;injection he with h1 h2 h3 h4;subst h1 h2 h3;obtain⟨dY,eE,fW⟩:=hp;obtain⟨gy,gJ,hU⟩:=hq;obtain⟨_,K0,ja⟩:=KG;obtain⟨_,_,jT⟩:=KH;unfold po;dsimp only at dY eE fW gy gJ hU K0 ja jT⊢;have G:X ys=(X xs):=by have h:=congrArg List.length h4;simpa using h.symm
 obtain⟨n,hn⟩:∃n,X xs=n:=⟨_,rfl⟩;obtain⟨k,hk⟩:∃k,X sp=k:=⟨_,rfl⟩;rw[G,hn,hk];rw[hn] at G K0;have D:Below w.heap.size w ((w.alloc (OC #[Y Z num,Y Z qu,U sA k sc,U A n c] 51)).alloc (OC #[Y Z num,Y Z qu,U sB k sd,U B n d] 51)):=((Below.refl _ _).alloc (OJ _) _).alloc (by simp) _;have CB:=O (kV sA sB k k sc sd sp sp _ (dY.below D) (gy.below D) hk hk);rw[beq_self_eq_true] at CB;obtain⟨g1,cz⟩:∃g,w.heap.size=g:=⟨_,rfl⟩;have K4:=O cz;have K:ab ((w.alloc (OC #[Y Z num,Y Z qu,U sA k sc,U A n c] 51)).alloc (OC #[Y Z num,Y Z qu,U sB k sd,U B n d] 51)) g1 51 #[Y Z num,Y Z qu,U sA k sc,U A n c]:=(aH (ab.new _ _ _) cz).alloc _;have M:ab ((w.alloc (OC #[Y Z num,Y Z qu,U sA k sc,U A n c] 51)).alloc (OC #[Y Z num,Y Z qu,U sB k sd,U B n d] 51)) (g1+1) 51 #[Y Z num,Y Z qu,U sB k sd,U B n d]:=aH (ab.new _ _ _) (by simp[cz]);have kz:=O (eE.below D);have rX:=O (gJ.below D);have Ip:=O (λm hm=>(fW m hm).below D);have Iq:=O (λm hm=>(hU m hm).below D);have K8:=O ja;have K9:=O jT;have K3:=O h4;have K2:=O D;have HN:=O hn;have HK:=O G;have aC:=O K;have wj:=O M;have x0:=K.cell 0;have x1:=K.cell 1;have x2:=K.cell 2;have x3:=K.cell 3;have v0:=M.cell 0;have v1:=M.cell 1;have v2:=M.cell 2;have v3:=M.cell 3;(try dsimp only at x0 x1 x2 x3 v0 v1 v2 v3);clear dY eE fW gy gJ hU ja jT h4 G hn hk D K M
 go_enter Tryz.func98,Tryz.ntmps98
 go_wp2_with (go_at_call 14;refine CB.out.mono ?_;rintro e w2 ⟨rfl,rfl⟩)
 generalize (w.alloc (OC #[Y Z num,Y Z qu,U sA k sc,U A n c] 51)).alloc (OC #[Y Z num,Y Z qu,U sB k sd,U B n d] 51)=W1 at*;clear CB x0 x1 x2 x3 v0 v1 v2 v3 cz
 go_loopg [5] n (λg i=> λwr=>∃(j:Nat),j+g=n/\i=Y Z (j:Int)/\Hid (Below W1.heap.size W1 wr))
 case atStart=>exact⟨0,by omega,rfl,O (Below.refl _ _)⟩
 case round=>
  obtain⟨j,hj,rfl,HI⟩:=hrel;have hz:=(aC.out.below HI.out aC.out.lt).cell 3;(try dsimp only at hz)
  cases gk with
  |zero=>
   have KF:¬((j:Int)<(n:Int)):=(by omega);clear hj;go_wp2_with fail
   go_ret;exact⟨rfl,by have h:=K2.out;rw[<-K4.out] at*;exact h.trans (HI.out.mono h.size)⟩
  |succ g=>
   have KF:((j:Int)<(n:Int)):=(by omega);have KI:¬((j:Int)<0):=(by omega);have T:j<(X xs):=(by rw[HN.out];omega);have aB:j<(X ys):=(by rw[HK.out];omega);obtain⟨a,rfl,KC⟩:=nM (kz.out.below HI.out) j T;obtain⟨b,rfl,KE⟩:=nM (rX.out.below HI.out) j aB;obtain⟨p,hp⟩:∃p,xs[j]=p:=⟨_,rfl⟩;obtain⟨q,hq⟩:∃q,ys[j]=q:=⟨_,rfl⟩
   have HC:Hid (∀W,Sl W (some a) (av dy xs)/\Sl W (some b) (av dy ys)->(W.cell? (a.add (j*7))=some (Y Z p.m.ad)/\W.cell? ⟨(a.add (j*7)).block,(a.add (j*7)).off+1,none⟩=some (Y Z p.m.kd)/\W.cell? ⟨(a.add (j*7)).block,(a.add (j*7)).off+2,none⟩=some (Y Z p.m.qu)/\W.cell? ⟨(a.add (j*7)).block,(a.add (j*7)).off+3,none⟩=some (Y Z p.m.x)/\W.cell? ⟨(a.add (j*7)).block,(a.add (j*7)).off+4,none⟩=some (Y Z p.m.y)/\W.cell? ⟨(a.add (j*7)).block,(a.add (j*7)).off+5,none⟩=some (Y Z p.m.pa)/\W.cell? ⟨(a.add (j*7)).block,(a.add (j*7)).off+6,none⟩=some (U p.A (X p.xs) p.c))/\(W.cell? (b.add (j*7))=some (Y Z q.m.ad)/\W.cell? ⟨(b.add (j*7)).block,(b.add (j*7)).off+1,none⟩=some (Y Z q.m.kd)/\W.cell? ⟨(b.add (j*7)).block,(b.add (j*7)).off+2,none⟩=some (Y Z q.m.qu)/\W.cell? ⟨(b.add (j*7)).block,(b.add (j*7)).off+3,none⟩=some (Y Z q.m.x)/\W.cell? ⟨(b.add (j*7)).block,(b.add (j*7)).off+4,none⟩=some (Y Z q.m.y)/\W.cell? ⟨(b.add (j*7)).block,(b.add (j*7)).off+5,none⟩=some (Y Z q.m.pa)/\W.cell? ⟨(b.add (j*7)).block,(b.add (j*7)).off+6,none⟩=some (U q.A (X q.xs) q.c))):=O λW hW=>by
    obtain⟨a',e1,_,c0,c1,c2,c3,c4,c5,c6⟩:=nM hW.1 j T;obtain⟨b',e2,_,d0,d1,d2,d3,d4,d5,d6⟩:=nM hW.2 j aB
    cases e1;cases e2
    rw[hp] at c0 c1 c2 c3 c4 c5 c6;rw[hq] at d0 d1 d2 d3 d4 d5 d6;exact⟨⟨c0,c1,c2,c3,c4,c5,c6⟩,d0,d1,d2,d3,d4,d5,d6⟩
   have KK:OT.wrap ((j:Int)+1)=(j:Int)+1:=(by rw[OO];omega);have K6:=O hj;have C:Below W1.heap.size W1 wr.drew:=HI.out.drew;have Io:=O C;have dt:p∈xs:=(by rw[<-hp];exact OF T);have dD:q∈ys:=by rw[<-hq];exact OF aB
   have K1:p.m=q.m:=by
    have h:=congrArg (λl=>l[j]?) K3.out;simp only[OP,OE T,OE aB,OS,Option.some.injEq] at h;rw[hp,hq] at h;exact h
   have bE:Hid ((aa [(g1,51,#[Y Z num,Y Z qu,U sA k sc,U (some a) n c]),(g1+1,51,#[Y Z num,Y Z qu,U sB k sd,U (some b) n d])] wr.drew)/\Sl wr.drew (some a) (av dy xs)/\Sl wr.drew (some b) (av dy ys)):=O ⟨aa.cons (aC.out.below C aC.out.lt) (aa.cons (wj.out.below C wj.out.lt) (ag _)),kz.out.below C,rX.out.below C⟩;have dE:=wu p.m q.m p.xs q.xs p.A q.A p.c q.c wr.drew (Ip.out p dt).e (Iq.out q dD).e (((Ip.out p dt).below C).bks (K8.out p dt)) (((Iq.out q dD).below C).bks (K9.out q dD));rw[qa.2 K1] at dE;unfold fI at dE;have Kr:=O dE;clear dE;clear KC KE hj hp hq C dt dD K1 T aB;go_wp2_with fail
   refine bf (λW=>(aa [(g1,51,#[Y Z num,Y Z qu,U sA k sc,U (some a) n c]),(g1+1,51,#[Y Z num,Y Z qu,U sB k sd,U (some b) n d])] W)/\Sl W (some a) (av dy xs)/\Sl W (some b) (av dy ys)) 12 (OD 0 (OD 1 (OD 2 (OD 3 (OD 4 (OD 5 (OD 6 (OD 7 (OD 8 (OD 9 (Of 10 (OD 11 .done)))))))))))) (bE.out) (λPE J2=>?_)
   iterate 10
    refine aj (v:=?_) rfl (by rfl) ?_ ?_
    rotate_left
    ·intro _ I;(try dsimp only at I);obtain⟨⟨z0,z1,z2,z3,z4,z5,z6⟩,y0,y1,y2,y3,y4,y5,y6⟩:=HC.out _ I.2;have z7:=I.1.head.cell 3;have z8:=I.1.tail.head.cell 3;(try dsimp only at z7 z8);go_simp;(try with_reducible rfl)
    simp only[J,OB,OA]
   refine aX (f:=151) rfl (by rfl) (by first|(go_simp;done)|(go_simp;rfl)) Kr.out ?_;rintro e w2 ⟨rfl,N⟩;have K5:=O (Io.out.trans (N.mono Io.out.size));refine⟨_,rfl,_,λ_ h=>h,⟨bE.out.1.below N,bE.out.2.1.below N,bE.out.2.2.below N⟩,?_⟩;simp only[J,OB,OA];refine aj (v:=?_) rfl (by rfl) ?_ ?_;rotate_left
   ·intro _ I;(try dsimp only at I);go_simp;(try with_reducible rfl)
   simp only[J,OB,OA];refine J2 _ _ ?_;clear J2 PE;simp only[OG,OZ];clear N hz;go_wp2_with fail
   refine⟨rfl,?_⟩;go_wp2_with fail
   go_roundg g
   case measure=>omega
   case rel=>exact⟨j+1,by have:=K6.out;omega,rfl,K5⟩
theorem xO (p q:bu)(w:World)(he:p.s=q.s)(hp:ii w p)(hq:ii w q)(KO:iZ p)(KQ:iZ q):
  Calls OH 54 #[iF p,iF q] w λe w'=>e=ON (OX true)/\Below w.heap.size w w':=by
 obtain⟨num,qu,sp,sA,sc,xs,A,c⟩:=p;obtain⟨KT,KV,KW,sB,sd,ys,B,d⟩:=q;unfold bu.s at he;dsimp only at he;injection he with h1 h4;injection h1 with h1 h2 h3;subst h1 h2 h3;obtain⟨dY,eE,fW⟩:=hp;obtain⟨gJ,hU,ja⟩:=hq;obtain⟨_,K2,kz⟩:=KO;obtain⟨_,_,rX⟩:=KQ;unfold iF;dsimp only at dY eE fW gJ hU ja K2 kz rX⊢;have I:X ys=(X xs):=by have h:=congrArg List.length h4;simpa using h.symm
 obtain⟨n,hn⟩:∃n,X xs=n:=⟨_,rfl⟩;obtain⟨k,hk⟩:∃k,X sp=k:=⟨_,rfl⟩;rw[I,hn,hk];rw[hn] at I K2;have G:Below w.heap.size w ((w.alloc (OC #[Y Z num,Y Z qu,U sA k sc,U A n c] 35)).alloc (OC #[Y Z num,Y Z qu,U sB k sd,U B n d] 35)):=((Below.refl _ _).alloc (OJ _) _).alloc (by simp) _;have CB:=O (xN num qu sp sA sB k sc sd _ (dY.below G) (gJ.below G) hk);obtain⟨g1,dt⟩:∃g,w.heap.size=g:=⟨_,rfl⟩;have K9:=O dt;have M:ab ((w.alloc (OC #[Y Z num,Y Z qu,U sA k sc,U A n c] 35)).alloc (OC #[Y Z num,Y Z qu,U sB k sd,U B n d] 35)) g1 35 #[Y Z num,Y Z qu,U sA k sc,U A n c]:=(aH (ab.new _ _ _) dt).alloc _;have N:ab ((w.alloc (OC #[Y Z num,Y Z qu,U sA k sc,U A n c] 35)).alloc (OC #[Y Z num,Y Z qu,U sB k sd,U B n d] 35)) (g1+1) 35 #[Y Z num,Y Z qu,U sB k sd,U B n d]:=aH (ab.new _ _ _) (by simp[dt]);have K4:=O (eE.below G);have K6:=O (hU.below G);have KG:=O (λm hm=>(fW m hm).below G);have KH:=O (λm hm=>(ja m hm).below G);have KI:=O kz;have KJ:=O rX;have K8:=O h4;have Iq:=O G;have HN:=O hn;have HK:=O I;have bE:=O (And.intro M N);have x0:=M.cell 0;have x1:=M.cell 1;have x2:=M.cell 2;have x3:=M.cell 3;have v0:=N.cell 0;have v1:=N.cell 1;have v2:=N.cell 2;have v3:=N.cell 3;(try dsimp only at x0 x1 x2 x3 v0 v1 v2 v3);clear dY eE fW gJ hU ja kz rX h4 I hn hk G M N
 go_enter Tryz.func54,Tryz.ntmps54
 go_wp2_with (go_at_call 97;refine CB.out.mono ?_;rintro e W1 ⟨rfl,C⟩;have dD:=bE.out.1.below C bE.out.1.lt;have dE:=bE.out.2.below C bE.out.2.lt;have aC:=O dD;have J2:=O dE;have K5:=O C;have Io:=O (K4.out.below C);have Ip:=O (K6.out.below C);have KE:=O (λm hm=>(KG.out m hm).below C);have KF:=O (λm hm=>(KH.out m hm).below C);have u3:=dD.cell 3;have w3:=dE.cell 3;(try dsimp only at u3 w3);clear C dD dE x0 x1 x2 x3 v0 v1 v2 v3)
 clear CB u3 w3 dt
 go_loopg [5] n (λg i=> λwr=>∃(j:Nat),j+g=n/\i=Y Z (j:Int)/\Hid (Below W1.heap.size W1 wr))
 case atStart=>exact⟨0,by omega,rfl,O (Below.refl _ _)⟩
 case round=>
  obtain⟨j,hj,rfl,HI⟩:=hrel;have hz:=(aC.out.below HI.out aC.out.lt).cell 3;(try dsimp only at hz)
  cases gk with
  |zero=>
   have KN:¬((j:Int)<(n:Int)):=(by omega);clear hj;go_wp2_with fail
   go_ret;exact⟨rfl,by have h:=Iq.out.trans (K5.out.mono Iq.out.size);rw[<-K9.out] at*;exact h.trans (HI.out.mono h.size)⟩
  |succ g=>
   have KN:((j:Int)<(n:Int)):=(by omega);have KR:¬((j:Int)<0):=(by omega);have T:j<(X xs):=(by rw[HN.out];omega);have aB:j<(X ys):=(by rw[HK.out];omega);obtain⟨a,rfl,KL⟩:=nL (Io.out.below HI.out) j T;obtain⟨b,rfl,KM⟩:=nL (Ip.out.below HI.out) j aB;obtain⟨p,hp⟩:∃p,xs[j]=p:=⟨_,rfl⟩;obtain⟨q,hq⟩:∃q,ys[j]=q:=⟨_,rfl⟩
   have HC:Hid (∀W,Sl W (some a) (av fb xs)/\Sl W (some b) (av fb ys)->(W.cell? (a.add (j*4))=some (Y Z p.num)/\W.cell? ⟨(a.add (j*4)).block,(a.add (j*4)).off+1,none⟩=some (Y Z p.qu)/\W.cell? ⟨(a.add (j*4)).block,(a.add (j*4)).off+2,none⟩=some (U p.sA (X p.sp) p.sc)/\W.cell? ⟨(a.add (j*4)).block,(a.add (j*4)).off+3,none⟩=some (U p.A (X p.ms) p.c))/\(W.cell? (b.add (j*4))=some (Y Z q.num)/\W.cell? ⟨(b.add (j*4)).block,(b.add (j*4)).off+1,none⟩=some (Y Z q.qu)/\W.cell? ⟨(b.add (j*4)).block,(b.add (j*4)).off+2,none⟩=some (U q.sA (X q.sp) q.sc)/\W.cell? ⟨(b.add (j*4)).block,(b.add (j*4)).off+3,none⟩=some (U q.A (X q.ms) q.c))):=O λW hW=>by
    obtain⟨a',e1,_,c0,c1,c2,c3⟩:=nL hW.1 j T;obtain⟨b',e2,_,d0,d1,d2,d3⟩:=nL hW.2 j aB
    cases e1;cases e2
    rw[hp] at c0 c1 c2 c3;rw[hq] at d0 d1 d2 d3;exact⟨⟨c0,c1,c2,c3⟩,d0,d1,d2,d3⟩
   have KU:OT.wrap ((j:Int)+1)=(j:Int)+1:=(by rw[OO];omega);have KC:=O hj;have D:Below W1.heap.size W1 wr.drew:=HI.out.drew;have K0:=O D;have gy:p∈xs:=(by rw[<-hp];exact OF T);have jT:q∈ys:=by rw[<-hq];exact OF aB
   have K3:p.g=q.g:=by
    have h:=congrArg (λl=>l[j]?) K8.out;simp only[OP,OE T,OE aB,OS,Option.some.injEq] at h;rw[hp,hq] at h;exact h
   have cz:Hid ((aa [(g1,35,#[Y Z num,Y Z qu,U sA k sc,U (some a) n c]),(g1+1,35,#[Y Z num,Y Z qu,U sB k sd,U (some b) n d])] wr.drew)/\Sl wr.drew (some a) (av fb xs)/\Sl wr.drew (some b) (av fb ys)):=O ⟨aa.cons (aC.out.below D aC.out.lt) (aa.cons (J2.out.below D J2.out.lt) (ag _)),Io.out.below D,Ip.out.below D⟩;have wj:=wt p q wr.drew K3 ((KE.out p gy).below D) ((KF.out q jT).below D) (KI.out p gy) (KJ.out q jT);unfold po at wj;have KK:=O wj;clear wj;clear KL KM hj hp hq D gy jT K3 T aB;go_wp2_with fail
   refine bf (λW=>(aa [(g1,35,#[Y Z num,Y Z qu,U sA k sc,U (some a) n c]),(g1+1,35,#[Y Z num,Y Z qu,U sB k sd,U (some b) n d])] W)/\Sl W (some a) (av fb xs)/\Sl W (some b) (av fb ys)) 12 (OD 0 (OD 1 (OD 2 (OD 3 (OD 4 (OD 5 (OD 6 (OD 7 (OD 8 (OD 9 (Of 10 (OD 11 .done)))))))))))) (cz.out) (λPE K1=>?_)
   iterate 10
    refine aj (v:=?_) rfl (by rfl) ?_ ?_
    rotate_left
    ·intro _ K;(try dsimp only at K);obtain⟨⟨z0,z1,z2,z3⟩,y0,y1,y2,y3⟩:=HC.out _ K.2;have z7:=K.1.head.cell 3;have z8:=K.1.tail.head.cell 3;(try dsimp only at z7 z8);go_simp;(try with_reducible rfl)
    simp only[J,OB,OA]
   refine aX (f:=98) rfl (by rfl) (by first|(go_simp;done)|(go_simp;rfl)) KK.out ?_;rintro e w2 ⟨rfl,C⟩;have Kr:=O (K0.out.trans (C.mono K0.out.size));refine⟨_,rfl,_,λ_ h=>h,⟨cz.out.1.below C,cz.out.2.1.below C,cz.out.2.2.below C⟩,?_⟩;simp only[J,OB,OA];refine aj (v:=?_) rfl (by rfl) ?_ ?_;rotate_left
   ·intro _ K;(try dsimp only at K);go_simp;(try with_reducible rfl)
   simp only[J,OB,OA];refine K1 _ _ ?_;clear K1 PE;simp only[OG,OZ];clear C hz;go_wp2_with fail
   refine⟨rfl,?_⟩;go_wp2_with fail
   go_roundg g
   case measure=>omega
   case rel=>exact⟨j+1,by have:=KC.out;omega,rfl,Kr⟩
theorem oT (xs I:List bu)(A B:Option Addr)(n m c d:Nat)(K:World)(hn:X xs=n)(hm:X I=m)(he:xs.map (·.s)=I.map (·.s))(hp:iW K A xs)(hq:iW K B I)(ja:∀s∈xs,iZ s) (jT:∀s∈I,iZ s) (K6:n<=2 ^ 60):
  Calls OH 21 #[U A n c,U B m d] K λe w'=>e=ON (OX true)/\Below K.heap.size K w':=by
 obtain⟨eE,fW⟩:=hp;obtain⟨gJ,hU⟩:=hq;have dY:X I=(X xs):=by have h:=congrArg List.length he;simpa using h.symm
 have K4:n=m:=by omega
 subst K4;have cz:=O eE;have dt:=O gJ;have Io:=O fW;have Ip:=O hU;have Iq:=O ja;have J2:=O jT;have kz:=O he;have HN:=O hn;have HK:=O hm;clear eE fW gJ hU ja jT he dY hn hm
 go_enter Tryz.func21,Tryz.ntmps21
 go_wp2_with fail
 go_loopg [5] n (λg i=> λwr=>∃(j:Nat),j+g=n/\i=Y Z (j:Int)/\Hid (Below K.heap.size K wr))
 case atStart=>exact⟨0,by omega,rfl,O (Below.refl _ _)⟩
 case round=>
  obtain⟨j,hj,rfl,HI⟩:=hrel;have _t:=trivial
  cases gk with
  |zero=>
   have K3:¬((j:Int)<(n:Int)):=(by omega);clear hj;go_wp2_with fail
   go_ret;exact⟨rfl,HI.out⟩
  |succ g=>
   have K3:((j:Int)<(n:Int)):=(by omega);have K5:¬((j:Int)<0):=(by omega);have D:j<(X xs):=(by rw[HN.out];omega);have G:j<(X I):=(by rw[HK.out];omega);obtain⟨a,rfl,K1⟩:=qd (cz.out.below HI.out) j D;obtain⟨b,rfl,K2⟩:=qd (dt.out.below HI.out) j G;obtain⟨p,hp⟩:∃p,xs[j]=p:=⟨_,rfl⟩;obtain⟨q,hq⟩:∃q,I[j]=q:=⟨_,rfl⟩
   have HC:Hid (∀W,Sl W (some a) (av dS xs)/\Sl W (some b) (av dS I)->(W.cell? (a.add (j*4))=some (Y Z p.tm)/\W.cell? ⟨(a.add (j*4)).block,(a.add (j*4)).off+1,none⟩=some (Y Z p.ty)/\W.cell? ⟨(a.add (j*4)).block,(a.add (j*4)).off+2,none⟩=some (U p.sA (X p.sp) p.sc)/\W.cell? ⟨(a.add (j*4)).block,(a.add (j*4)).off+3,none⟩=some (U p.A (X p.gs) p.c))/\(W.cell? (b.add (j*4))=some (Y Z q.tm)/\W.cell? ⟨(b.add (j*4)).block,(b.add (j*4)).off+1,none⟩=some (Y Z q.ty)/\W.cell? ⟨(b.add (j*4)).block,(b.add (j*4)).off+2,none⟩=some (U q.sA (X q.sp) q.sc)/\W.cell? ⟨(b.add (j*4)).block,(b.add (j*4)).off+3,none⟩=some (U q.A (X q.gs) q.c))):=O λW hW=>by
    obtain⟨a',e1,_,c0,c1,c2,c3⟩:=qd hW.1 j D;obtain⟨b',e2,_,d0,d1,d2,d3⟩:=qd hW.2 j G
    cases e1;cases e2
    rw[hp] at c0 c1 c2 c3;rw[hq] at d0 d1 d2 d3;exact⟨⟨c0,c1,c2,c3⟩,d0,d1,d2,d3⟩
   have K8:OT.wrap ((j:Int)+1)=(j:Int)+1:=(by rw[OO];omega);have wj:=O hj;have C:Below K.heap.size K wr.drew:=HI.out.drew;have dD:=O C;have aB:p∈xs:=(by rw[<-hp];exact OF D);have aC:q∈I:=by rw[<-hq];exact OF G
   have gy:p.s=q.s:=by
    have h:=congrArg (λl=>l[j]?) kz.out;simp only[OP,OE D,OE G,OS,Option.some.injEq] at h;rw[hp,hq] at h;exact h
   have T:Hid (Sl wr.drew (some a) (av dS xs)/\Sl wr.drew (some b) (av dS I)):=O ⟨cz.out.below C,dt.out.below C⟩;have bE:=xO p q wr.drew gy ((Io.out p aB).below C) ((Ip.out q aC).below C) (Iq.out p aB) (J2.out q aC);unfold iF at bE;have K0:=O bE;clear bE;clear K1 K2 hj hp hq C aB aC gy D G;go_wp2_with fail
   refine bf (λW=>Sl W (some a) (av dS xs)/\Sl W (some b) (av dS I)) 10 (OD 0 (OD 1 (OD 2 (OD 3 (OD 4 (OD 5 (OD 6 (OD 7 (Of 8 (OD 9 .done)))))))))) (T.out) (λPE dE=>?_)
   iterate 8
    refine aj (v:=?_) rfl (by rfl) ?_ ?_
    rotate_left
    ·intro _ M;(try dsimp only at M);obtain⟨⟨z0,z1,z2,z3⟩,y0,y1,y2,y3⟩:=HC.out _ M;go_simp;(try with_reducible rfl)
    simp only[J,OB,OA]
   refine aX (f:=54) rfl (by rfl) (by first|(go_simp;done)|(go_simp;rfl)) K0.out ?_;rintro e w2 ⟨rfl,N⟩;have rX:=O (dD.out.trans (N.mono dD.out.size));refine⟨_,rfl,_,λ_ h=>h,⟨T.out.1.below N,T.out.2.below N⟩,?_⟩;simp only[J,OB,OA];refine aj (v:=?_) rfl (by rfl) ?_ ?_;rotate_left
   ·intro _ M;(try dsimp only at M);go_simp;(try with_reducible rfl)
   simp only[J,OB,OA];refine dE _ _ ?_;clear dE PE;simp only[OG,OZ];clear N;go_wp2_with fail
   refine⟨rfl,?_⟩;go_wp2_with fail
   go_roundg g
   case measure=>omega
   case rel=>exact⟨j+1,by have:=wj.out;omega,rfl,rX⟩
def iB (l:List UInt8) (i pr:Int):Int×Int×Int:=if (ac ak ap l i).2.2 !=0 then(0,0,(ac ak ap l i).2.2) else((aY pr (ac ak ap l i).1).1,(ac ak ap l i).2.1,(aY pr (ac ak ap l i).1).2)
theorem sX (A:Option Addr)(n c:Nat)(l:List UInt8)(i pr:Int)(w:World)(N:Sl w A (l.map af))(hn:X l=n)(hsz:n<=2 ^ 47)(T: -9223372036854775808<=i/\i<=9223372036854775807)(hp:aK pr=true):
  Calls OH 193 #[U A n c,Y Z i,Y Z pr] w λe w'=>e=ON (.tuple #[Y Z (iB l i pr).1,Y Z (iB l i pr).2.1,Y Z (iB l i pr).2.2])/\Below w.heap.size w w':=by
 have C:=O (ET A n c l i w N hn hsz T);have D:=O (@un l i);obtain⟨R,B⟩:∃R,iB l i pr=R:=⟨_,rfl⟩;rw[B];unfold iB at B;obtain⟨⟨r1,r2,r3⟩,hr⟩:∃r,ac ak ap l i=r:=⟨_,rfl⟩;rw[hr] at C B D;dsimp only at C B D;clear N hn hsz T hr
 cases he:(r3 !=0) with
 |true=>
  rw[if_pos he] at B;subst B
  go_enter Oe,Od
  go_wp2_with fail
  refine C.out.mono ?_;rintro e w1 ⟨rfl,j⟩;have G:=O j;clear j C;go_wp2_with fail
  go_ret3;exact⟨rfl,G.out⟩
 |false=>
  rw[if_neg (by rw[he];decide)] at B;have h0:r3=0:=(by simpa using he);subst h0;obtain⟨I,M,h2⟩:=D.out rfl;clear I;have K:=O (λW=>Dg pr r1 W hp M h2);obtain⟨⟨t1,t2⟩,ht⟩:∃t,aY pr r1=t:=⟨_,rfl⟩;rw[ht] at K B;subst B;clear ht M h2 he D hp
  go_enter Oe,Od
  go_wp2_with fail
  refine C.out.mono ?_;rintro e w1 ⟨rfl,j⟩;have G:=O j;clear j C;go_wp2_with fail
  refine(K.out _).mono ?_;rintro e w2 ⟨rfl,rfl⟩;go_wp2_with fail
  go_ret3;exact⟨rfl,G.out⟩
def rC (l:List UInt8) (ad kd j B C p i:Int):aT×Int×Int:=
 if (mc l kd p).2.2 !=0 then(m0,0,(mc l kd p).2.2) else
 if (bg l (pI kd) (bO (mc l kd p).1) (mc l kd p).2.1).2.2 !=0 then(m0,0,(bg l (pI kd) (bO (mc l kd p).1) (mc l kd p).2.1).2.2) else
 (⟨ad,kd,j,B,C,(mc l kd p).1,(bg l (pI kd) (bO (mc l kd p).1) (mc l kd p).2.1).1⟩,(bg l (pI kd) (bO (mc l kd p).1) (mc l kd p).2.1).2.1 - i,0)
def rV (l:List UInt8) (ad kd j x y p i:Int):aT×Int×Int:=
 if (mv l kd p x y).2.2 !=0 then(m0,0,(mv l kd p x y).2.2) else rC l ad kd j (mv l kd p x y).1.1 (mv l kd p x y).1.2 (mv l kd p x y).2.1 i
theorem xS {l:List UInt8}{i ad:Int}{x:bi}:b9 l i ad x=if i<0\/ad<1\/33<ad then(m0,0,3) else if !cu x ad then(m0,0,2) else
  if (ac ay aG l i).2.2 !=0 then(m0,0,(ac ay aG l i).2.2) else
  if (mq l (ac ay aG l i).1 (i+(ac ay aG l i).2.1)).2.2 !=0 then(m0,0,(mq l (ac ay aG l i).1 (i+(ac ay aG l i).2.1)).2.2) else
  rV l ad (ac ay aG l i).1 (mq l (ac ay aG l i).1 (i+(ac ay aG l i).2.1)).1 (cH ad (ad - x.ad) x.had x.x x.y).1 (cH ad (ad - x.ad) x.had x.x x.y).2 (mq l (ac ay aG l i).1 (i+(ac ay aG l i).2.1)).2.1 i:=rfl
theorem Bw {l:List UInt8}{p pr:Int}(_h:(iB l p pr).2.2≠0):(fT l p pr).2.2=(iB l p pr).2.2:=by
 unfold iB fT at*;dsimp only at*
 split at _h
 ·rename_i j;rw[if_pos j,if_pos j]
 ·rename_i j;rw[if_neg j,if_neg j]
theorem EQ {l:List UInt8}{p pr:Int}(h:(iB l p pr).2.2=0):fT l p pr=((iB l p pr).1,p+(iB l p pr).2.1,0):=by
 unfold iB fT at*;dsimp only at*
 split at h
 ·rename_i j;exact absurd h (by simpa using j)
 ·rename_i j;rw[if_neg j,if_neg j];dsimp only at h⊢;rw[h]
theorem Bv {l:List UInt8}{p pr:Int}(j:0<=p)(B:p<=8*(X l:Int)):0<=(iB l p pr).2.1/\p+(iB l p pr).2.1<=8*(X l:Int):=by
 unfold iB
 split
 ·exact⟨Int.le_refl _,by dsimp only;omega⟩
 ·rename_i h
  have h2:(ac ak ap l p).2.2=0:=(by simpa using h);have C:=g8 j B h2;have D:=un h2;exact⟨by dsimp only;omega,C⟩
theorem Fo {cs:List (List UInt8)}{ns:List Int}{l:List UInt8}{i:Int}(h:(ac cs ns l i).2.2≠0):(ac cs ns l i).1=0/\(ac cs ns l i).2.1=0:=by
 unfold ac gQ at*
 split
 ·exact⟨rfl,rfl⟩
 ·rename_i j
  rw[if_neg j] at h
  split at h
  ·exact absurd rfl h
  ·split<;>exact⟨rfl,rfl⟩
theorem G3 {l:List UInt8}{i:Int}(h:8*(X l:Int)<i):ac ay aG l i=(0,0,5):=by
 unfold ac;rw[if_neg (by omega),show min 24 (8*X l - i.toNat)=0 by omega]
 kernel_rfl
theorem n8 {w W:World}{p:aL}{L:List aL}{R:List aV}(h:ar w (p::L) R W):ar w [p] R W:=⟨h.1,aa.cons h.2.1.head (ag _),h.2.2⟩
theorem Do (A:Option Addr)(n c:Nat)(l:List UInt8)(i ad:Int)(x:bi)(w:World)(hA:Sl w A (l.map af))(hn:X l=n)(hsz:n<=2 ^ 47)(hi: -9223372036854775808<=i/\i<=9223372036854775807)(T:¬(0<=i/\1<=ad/\ad<=33/\cu x ad=true/\i<=8*(n:Int)/\(ac ay aG l i).2.2=0)):
  Calls OH 150 #[U A n c,Y Z i,Y Z ad,dK x] w (kx w (b9 l i ad x)):=by
 have CA:=O (λW=>qZ x ad W);obtain⟨R,C⟩:∃R,b9 l i ad x=R:=⟨_,rfl⟩;rw[C];rw[xS] at C;have HA:=O hA;have HN:=O hn;have dY:=O hsz;have HI:=O hi;have bE:=O T;obtain⟨ah,aB⟩:∃b,cu x ad=b:=⟨_,rfl⟩;rw[aB] at C CA;have gJ:=O aB;unfold dK;obtain⟨la,lh,lx,ly⟩:=x;dsimp only at CA C⊢
 have fW:ar w [(w.heap.size+1,55,bP m0 (U none 0 0)),(w.heap.size,102,#[Y Z la,OX lh,Y Z lx,Y Z ly])] [] ((w.alloc (OC #[Y Z la,OX lh,Y Z lx,Y Z ly] 102)).alloc (OC (bP m0 (U none 0 0)) 55)):=
  ⟨((Below.refl _ w).alloc (OJ _) _).alloc (by simp) _,aa.cons (aH (ab.new _ _ _) (by simp)) (aa.cons ((ab.new w _ _).alloc _) (ag _)),aA _⟩
 have I:=O fW;clear hA hn hsz hi aB fW T
 by_cases g1:i<0
 ·have d1:decide (i<0)=true:=decide_eq_true g1
  rw[if_pos (.inl g1)] at C;subst C;clear g1
  go_enter OM,OK
  go_wp2_with fail
  refine bodyPost_ret (by simp[results,OI,go_sem];try rfl) rfl ?_;exact fL 3 I.out.1
 have d1:decide (i<0)=false:=decide_eq_false g1
 by_cases g2:ad<1
 ·have d2:decide (ad<1)=true:=decide_eq_true g2
  rw[if_pos (.inr (.inl g2))] at C;subst C;clear g1 g2
  go_enter OM,OK
  go_wp2_with fail
  refine bodyPost_ret (by simp[results,OI,go_sem];try rfl) rfl ?_;exact fL 3 I.out.1
 have d2:decide (ad<1)=false:=decide_eq_false g2
 by_cases g3:33<ad
 ·have d3:decide (33<ad)=true:=decide_eq_true g3
  rw[if_pos (.inr (.inr g3))] at C;subst C;clear g1 g2 g3
  go_enter OM,OK
  go_wp2_with fail
  refine bodyPost_ret (by simp[results,OI,go_sem];try rfl) rfl ?_;exact fL 3 I.out.1
 have d3:decide (33<ad)=false:=decide_eq_false g3;rw[if_neg (by omega)] at C;have M:=O (show 0<=i/\1<=ad/\ad<=33 by omega);clear g1 g2 g3
 cases ah with
 |false=>
  simp only[Bool.not_false,if_true] at C;subst C
  go_enter OM,OK
  go_wp2_with fail
  refine(CA.out _).mono ?_;rintro e w1 ⟨rfl,D⟩;have G:=aO I.out D;have K:=O G;have j:=G.2.1.head;have z0:=j.cell 0;have z1:=j.cell 1;have z2:=j.cell 2;have z3:=j.cell 3;have z4:=j.cell 4;have z5:=j.cell 5;have z6:=j.cell 6;have f0:=j.frozen 0;have f1:=j.frozen 1;have f2:=j.frozen 2;have f3:=j.frozen 3;have f4:=j.frozen 4;have f5:=j.frozen 5;have f6:=j.frozen 6;(try unfold bP m0 at z0 z1 z2 z3 z4 z5 z6);(try simp at z0 z1 z2 z3 z4 z5 z6);(try dsimp only at f0 f1 f2 f3 f4 f5 f6);clear j;clear D G;go_wp2_with fail
  have N:=jV (n8 K.out) (Ob _) (by simp) m0 (U none 0 0);have B:=N.2.1.head;unfold bP m0 at B;have s0:=B.cell 0;have s1:=B.cell 1;have s2:=B.cell 2;have s3:=B.cell 3;have s4:=B.cell 4;have s5:=B.cell 5;have s6:=B.cell 6;simp at s0 s1 s2 s3 s4 s5 s6;refine bodyPost_ret (by simp[results,OI,go_sem,s0,s1,s2,s3,s4,s5,s6];try rfl) rfl ?_;exact fL 2 N.1
 |true=>
 simp only[Bool.not_true,OL,if_false] at C;have CK:=O (λW=>bh A n c W dY.out)
 by_cases g4:8*(n:Int)<i
 ·have d4:decide (8*(n:Int)<i)=true:=decide_eq_true g4
  rw[G3 (by rw[HN.out];exact g4),if_pos (by decide)] at C;subst C;clear g4
  go_enter OM,OK
  go_wp2_with fail
  refine(CA.out _).mono ?_;rintro e w1 ⟨rfl,D⟩;have G:=aO I.out D;have K:=O G;have j:=G.2.1.head;have z0:=j.cell 0;have z1:=j.cell 1;have z2:=j.cell 2;have z3:=j.cell 3;have z4:=j.cell 4;have z5:=j.cell 5;have z6:=j.cell 6;have f0:=j.frozen 0;have f1:=j.frozen 1;have f2:=j.frozen 2;have f3:=j.frozen 3;have f4:=j.frozen 4;have f5:=j.frozen 5;have f6:=j.frozen 6;(try unfold bP m0 at z0 z1 z2 z3 z4 z5 z6);(try simp at z0 z1 z2 z3 z4 z5 z6);(try dsimp only at f0 f1 f2 f3 f4 f5 f6);clear j;clear D G;go_wp2_with (go_at_call 92;refine(CK.out _).mono ?_;rintro e w' ⟨rfl,rfl⟩)
  have N:=jV (n8 K.out) (Ob _) (by simp) m0 (U none 0 0);have B:=N.2.1.head;unfold bP m0 at B;have s0:=B.cell 0;have s1:=B.cell 1;have s2:=B.cell 2;have s3:=B.cell 3;have s4:=B.cell 4;have s5:=B.cell 5;have s6:=B.cell 6;simp at s0 s1 s2 s3 s4 s5 s6;refine bodyPost_ret (by simp[results,OI,go_sem,s0,s1,s2,s3,s4,s5,s6];try rfl) rfl ?_;exact fL 5 N.1
 have d4:decide (8*(n:Int)<i)=false:=decide_eq_false g4;have cz:=O (show i<=8*(n:Int) by omega);clear g4;have CG:=O (λW hW=>vv A n c l i W hW HN.out dY.out HI.out);have dE:=O (@rA l i);have dt:=O (@g8 ay aG l i (by have:=M.out;omega) (by have:=cz.out;have:=HN.out;omega));obtain⟨⟨kd,kb,ke⟩,hk⟩:∃k,ac ay aG l i=k:=⟨_,rfl⟩;have dD:=O hk;rw[hk] at C CG dE dt;dsimp only at C CG dE dt;clear hk
 cases gy:(ke !=0) with
 |true=>
  rw[if_pos gy] at C;subst C
  go_enter OM,OK
  go_wp2_with fail
  refine(CA.out _).mono ?_;rintro e w1 ⟨rfl,D⟩;have K:=O (aO I.out D);clear D;go_wp2_with (go_at_call 92;refine(CK.out _).mono ?_;rintro e w' ⟨rfl,rfl⟩)
  refine(CG.out _ (HA.out.below K.out.1)).mono ?_;rintro e w2 ⟨rfl,eE⟩;have aC:=aO K.out eE;have hU:=O aC;have j:=aC.2.1.head;have z0:=j.cell 0;have z1:=j.cell 1;have z2:=j.cell 2;have z3:=j.cell 3;have z4:=j.cell 4;have z5:=j.cell 5;have z6:=j.cell 6;have f0:=j.frozen 0;have f1:=j.frozen 1;have f2:=j.frozen 2;have f3:=j.frozen 3;have f4:=j.frozen 4;have f5:=j.frozen 5;have f6:=j.frozen 6;(try unfold bP m0 at z0 z1 z2 z3 z4 z5 z6);(try simp at z0 z1 z2 z3 z4 z5 z6);(try dsimp only at f0 f1 f2 f3 f4 f5 f6);clear j;clear eE aC;go_wp2_with fail
  have N:=jV (n8 hU.out) (Ob _) (by simp) m0 (U none 0 0);have B:=N.2.1.head;unfold bP m0 at B;have s0:=B.cell 0;have s1:=B.cell 1;have s2:=B.cell 2;have s3:=B.cell 3;have s4:=B.cell 4;have s5:=B.cell 5;have s6:=B.cell 6;simp at s0 s1 s2 s3 s4 s5 s6;refine bodyPost_ret (by simp[results,OI,go_sem,s0,s1,s2,s3,s4,s5,s6];try rfl) rfl ?_;exact fL ke N.1
 |false=>
  exfalso;have h0:ke=0:=(by simpa using gy);exact bE.out ⟨by have:=M.out;omega,by have:=M.out;omega,by have:=M.out;omega,gJ.out,cz.out,by rw[dD.out];exact h0⟩
end Go.Proofs.YthhijgcfbjcgiaaGreatDoor

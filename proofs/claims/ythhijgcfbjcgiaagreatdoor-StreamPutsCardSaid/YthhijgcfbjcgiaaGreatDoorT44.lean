/- MOk, ChkS, SameS -/
import Derived.Test.YthhijgcfbjcgiaaGreatDoorT43
import Derived.Test.YthhijgcfbjcgiaaGreatDoorT39
import Derived.Test.YthhijgcfbjcgiaaGreatDoorT21
namespace Go.Proofs.YthhijgcfbjcgiaaGreatDoor
section
open Go Go.RowKit

end
open Go Go.RowKit
attribute [local go_sem] Oper.semAt_some
set_option maxHeartbeats 16000000
set_option maxRecDepth 100000
open Go.Lib renaming hid→O
open Go.Value renaming slice→U,int→Y,bool→OY
open Go.IntKind renaming i64→Z,wrap_i64→OJ,i64→OQ
open List renaming length→X,setIfInBounds_toArray→J,set_cons_succ→OA,set_cons_zero→OB,getElem?_eq_getElem→OE,getElem_mem→OF,drop_succ_cons→OG,getElem?_map→OM,drop_eq_getElem_cons→ON,length_map→OO,drop_of_length_le→OR,drop_zero→OT,drop_nil→OV
open Go.Obj renaming cells→OC
open Go.Proofs.YthhijgcfbjcgiaaGreatDoor.bY renaming take→OD,step→OZ
open Tryz renaming prog→OH,ntmps15→OW,func15→OX
open Nat renaming le_refl→OI
open Go.Ending renaming returned→OK
open Bool renaming false_eq_true→OL,false_and→OS,true_and→OU
open Option renaming map_some→OP
theorem rV {f:Int}{ns:List Int}{gs:List hZ}(j:Nat)(B:j<X ns)(h2:j<X gs):dX f (ns.drop j) (gs.drop j)=(j7 f ns[j] gs[j]&&dX f (ns.drop (j+1)) (gs.drop (j+1))):=by
 rw[ON B,ON h2,dX]
theorem pT (s:a8)(w:World)(hs:fo w s)(hS:eF s):Calls OH 15 #[fY s] w λe w'=>e=OK (Y Z (if cN s.s then 0 else 2))/\Below w.heap.size w w':=by
 obtain⟨tm,ty,sp,sA,sc,gs,A,c⟩:=s;obtain⟨KU,JT,KC⟩:=hs;obtain⟨KQ,KR,KD⟩:=hS;dsimp only at KU JT KC KQ KR KD;unfold fY cN a8.s;dsimp only;have KJ:=O JT;have KW:=O KC;have L4:=O KD;obtain⟨rG,N⟩:∃b,(qG ⟨tm,ty,sp⟩&&dX (dJ ty) (aK (dJ ty)) (gs.map (·.g)))=b:=⟨_,rfl⟩;rw[N];have KO:qG ⟨tm,ty,sp⟩=mo tm ty (X sp):=rfl;rw[KO] at N;have C1:=O (λW=>uK tm ty sA (X sp) sc W);have C2:=O (λW=>sj tm ty sA (X sp) sc W);have dO:dJ ty=0\/dJ ty=1:=by unfold dJ;omega
 obtain⟨f,hf⟩:∃f,dJ ty=f:=⟨_,rfl⟩;rw[hf] at N C2 dO;have C3:=O (λW=>mj f dO W);obtain⟨k,hk⟩:∃k,X sp=k:=⟨_,rfl⟩;obtain⟨L,hL⟩:∃L,X gs=L:=⟨_,rfl⟩;obtain⟨K,hK⟩:∃K,(aK f).length=K:=⟨_,rfl⟩;have L9:K<=12:=by rw[<-hK];exact ip f
 rw[hk] at C1 C2 N;rw[hK] at C3;rw[hk,hL];have K6:=O N;have HL:=O hL;have Kw:=O hK;have KF:=O dO;rw[hL] at KR;have KK:Below w.heap.size w (w.alloc (OC #[Y Z tm,Y Z ty,U sA k sc,U A L c] 35)):=(Below.refl _ _).alloc (OI _) _;obtain⟨gg,dv⟩:∃gg,w.heap.size=gg:=⟨_,rfl⟩;have KL:ab (w.alloc (OC #[Y Z tm,Y Z ty,U sA k sc,U A L c] 35)) gg 35 #[Y Z tm,Y Z ty,U sA k sc,U A L c]:=aE (ab.new _ _ _) dv;have fJ:=O KK;have K0:=O KL;clear KU JT KC KQ KD KO dO hf N hk hL hK KK KL
 cases jY:mo tm ty k with
 |false=>
  have I:=K6.out;rw[jY,OS] at I;subst I;rw[jY] at C1;simp only[OL,if_false] at C1⊢;clear jY dv
  go_enter OX,OW
  go_wp2_with (go_at_call 36;refine(C1.out _).mono ?_;rintro e w2 ⟨rfl,M⟩;have aJ:=O (fJ.out.trans (M.mono fJ.out.size));clear M)
  go_ret;exact⟨rfl,aJ.out⟩
 |true=>
 rw[jY] at C1;simp only[if_true] at C1;have KI:Hid (dX f (aK f) (gs.map (·.g))=rG):=O (by rw[<-K6.out,jY,OU]);clear jY;obtain⟨V,hV⟩:∃V:Int,(if rG then(0:Int) else 2)=V:=⟨_,rfl⟩;rw[hV];have HV:=O hV;clear hV
 cases KA:((K:Int) !=(L:Int)) with
 |true=>
  have L5:V=2:=by
   have L8:K≠L:=(by intro h;subst h;simp at KA);rw[<-HV.out]
   cases hR:rG with
   |false=>rfl
   |true=>
    have h:=KI.out;rw[hR] at h;have:=(kI _ _ h).2;rw[OO,HL.out,Kw.out] at this;exact absurd this.symm L8
  subst L5
  go_enter OX,OW
  go_wp2_with (first|(go_at_call 36;refine(C1.out _).mono ?_;rintro e w2 ⟨rfl,M⟩;have aJ:=O (fJ.out.trans (M.mono fJ.out.size));have bM:=O (K0.out.below M K0.out.lt);have y:=bM.out;have y0:=y.cell 0;have y1:=y.cell 1;have y2:=y.cell 2;(try dsimp only at y0 y1 y2);clear M y)|(go_at_call 37;refine(C2.out _).mono ?_;rintro e w3 ⟨rfl,cE⟩;have gj:=O (aJ.out.trans (cE.mono aJ.out.size));have kU:=O (bM.out.below cE bM.out.lt);clear cE y0 y1 y2)|(go_at_call 38;refine(C3.out _).mono ?_;rintro e w4 ⟨Al,cl,rfl,Ht,cI⟩;have Ku:=O (gj.out.trans (cI.mono gj.out.size));have Kv:=O (kU.out.below cI kU.out.lt);have KH:=O Ht;have y3:=Kv.out.cell 3;(try dsimp only at y3);clear cI Ht))
  go_ret;exact⟨rfl,Ku.out⟩
 |false=>
  have KM:K=L:=(by have h:(K:Int)=(L:Int):=(by simpa using KA);omega);subst KM;clear KA
  go_enter OX,OW
  go_wp2_with (first|(go_at_call 36;refine(C1.out _).mono ?_;rintro e w2 ⟨rfl,M⟩;have aJ:=O (fJ.out.trans (M.mono fJ.out.size));have bM:=O (K0.out.below M K0.out.lt);have y:=bM.out;have y0:=y.cell 0;have y1:=y.cell 1;have y2:=y.cell 2;(try dsimp only at y0 y1 y2);clear M y)|(go_at_call 37;refine(C2.out _).mono ?_;rintro e w3 ⟨rfl,cE⟩;have gj:=O (aJ.out.trans (cE.mono aJ.out.size));have kU:=O (bM.out.below cE bM.out.lt);clear cE y0 y1 y2)|(go_at_call 38;refine(C3.out _).mono ?_;rintro e w4 ⟨Al,cl,rfl,Ht,cI⟩;have Ku:=O (gj.out.trans (cI.mono gj.out.size));have Kv:=O (kU.out.below cI kU.out.lt);have KH:=O Ht;have y3:=Kv.out.cell 3;(try dsimp only at y3);clear cI Ht))
  go_loopg [29] K (λgk i=> λwr=>∃(j:Nat),j+gk=K/\i=Y Z (j:Int)/\Hid (dX f ((aK f).drop j) ((gs.map (·.g)).drop j)=rG)/\Hid (Below w.heap.size w wr)/\Hid (wr.ownsRow w.heap.size 3 1 (U Al K cl) K ((aK f).map aH)))
  case atStart=>exact⟨0,by omega,rfl,KI,Ku,O (cJ KH.out gj.out.size)⟩
  case round=>
   obtain⟨j,hj,rfl,HJ,HB,Kx⟩:=hrel
   cases gk with
   |zero=>
    have L7:¬((j:Int)<(K:Int)):=(by omega);have I:=HJ.out;rw[OR (by have:=Kw.out;omega),OR (by rw[OO];have:=HL.out;omega)] at I;have I:true=rG:=I;have hv:=HV.out;rw[<-I,if_pos rfl] at hv;subst hv;clear hj I;go_wp2_with fail
    go_ret;exact⟨rfl,by first|exact HB.out|(rw[<-dv];exact HB.out)⟩
   |succ gk=>
    have L7:((j:Int)<(K:Int)):=(by omega);have La:¬((j:Int)<0):=(by omega);have K4:j<(X gs):=(by rw[HL.out];omega);have K3:j<(aK f).length:=(by rw[Kw.out];omega);obtain⟨ad,rfl,_,c0,c1,c2,c3⟩:=jM (KJ.out.below HB.out) j K4;have eE:=OF K4;have Hu:=HJ.out;rw[rV j K3 (by rw[OO];exact K4),List.getElem_map] at Hu;obtain⟨G,hG⟩:∃G,gs[j]=G:=⟨_,rfl⟩;obtain⟨nm,K5⟩:∃x,(aK f)[j]=x:=⟨_,rfl⟩;have Kt:nm∈aK f:=(by rw[<-K5];exact OF K3);rw[hG,K5,D4] at Hu;rw[hG] at eE c0 c1 c2 c3;obtain⟨al,L6,K8,KB⟩:=(fG Kx.out).int j K3;rw[K5] at KB;have KN:=(KW.out _ eE).below HB.out;have KT:=L4.out _ eE;have Lb:OQ.wrap ((j:Int)+1)=(j:Int)+1:=(by rw[OJ];omega);have Ky:=O Hu;have KX:=O hj;obtain⟨num,qu,B,T,gc,ms,mA,mc⟩:=G;dsimp only at c0 c1 c2 c3 Hu;have Hl:=((Below.refl _ wr).alloc (OI _) (OC #[Y Z num,Y Z qu,U T (X B) gc,U mA (X ms) mc] 51)).drew;have KY:=O (show ab (wr.alloc (OC #[Y Z num,Y Z qu,U T (X B) gc,U mA (X ms) mc] 51)).drew wr.heap.size 51 #[Y Z num,Y Z qu,U T (X B) gc,U mA (X ms) mc] from ab.new wr _ _);have iP:=O (HB.out.trans (Hl.mono HB.out.size));have KZ:=O (bL Kx.out Hl (OI _));have K9:(wr.alloc (OC #[Y Z num,Y Z qu,U T (X B) gc,U mA (X ms) mc] 51)).drew.cell? (al.add j)=some (Y Z nm):=(Hl.cell (by rw[dh];exact K8)).trans KB;have KV:=O K9
    have CG:num=nm->Hid (Calls OH 39 #[Y Z f,pg ⟨num,qu,B,T,gc,ms,mA,mc⟩] (wr.alloc (OC #[Y Z num,Y Z qu,U T (X B) gc,U mA (X ms) mc] 51)).drew λe w'=>e=OK (OY (qj f ⟨num,qu,B,T,gc,ms,mA,mc⟩))/\Below (wr.alloc (OC #[Y Z num,Y Z qu,U T (X B) gc,U mA (X ms) mc] 51)).drew.heap.size (wr.alloc (OC #[Y Z num,Y Z qu,U T (X B) gc,U mA (X ms) mc] 51)).drew w'):= λe=>
     O (zU f ⟨num,qu,B,T,gc,ms,mA,mc⟩ _ KF.out (by show num∈aK f;rw[e];exact Kt) (KN.below Hl) KT)
    subst L6;unfold pg at CG;dsimp only at CG;generalize qj f ⟨num,qu,B,T,gc,ms,mA,mc⟩=gd at*;have Kz:Hid (ab (wr.alloc (OC #[Y Z num,Y Z qu,U T (X B) gc,U mA (X ms) mc] 51)).drew wr.heap.size 51 #[Y Z num,Y Z qu,U T (X B) gc,U mA (X ms) mc]/\(wr.alloc (OC #[Y Z num,Y Z qu,U T (X B) gc,U mA (X ms) mc] 51)).drew.cell? (al.add j)=some (Y Z nm)):=O ⟨KY.out,KV.out⟩;clear eE hG K5 Kt KN KT Hl hj K4 K3 HJ HB Kx KB K9 K8 Hu
    by_cases D:num=nm
    ·have KE:=CG D
     have hq:(num !=nm)=false:=(by simpa using D);clear CG;have dy:(num==nm)=true:=by simpa using D
     cases gd with
     |false=>
      have I:=Ky.out;rw[dy] at I;simp only[OU,OS] at I;have hv:=HV.out;rw[<-I] at hv;simp only[OL,if_false] at hv;subst hv;clear D I dy;go_wp2_with fail
      refine dx (λw'=>ab w' wr.heap.size 51 #[Y Z num,Y Z qu,U T (X B) gc,U mA (X ms) mc]/\w'.cell? (al.add j)=some (Y Z nm)) 10 [(0,true),(1,true),(2,true),(3,true),(4,true),(5,true),(6,true),(7,true),(8,true),(9,true)] (Kz.out) (λPE av=>?_)
      iterate 10
       refine bh (v:=?_) rfl (by rfl) ?_ ?_
       rotate_left
       ·intro _ C;(try dsimp only at C);have a0:=C.1.cell 0;have a1:=C.2;have a2:=C.1.cell 1;have a3:=C.1.cell 2;have a4:=C.1.cell 3;(try dsimp only at a0 a2 a3 a4);go_simp;(try with_reducible rfl)
       simp only[J,OB,OA]
      (refine av _ _ ?_;simp only[OG,OT];clear av PE)
      go_wp2_with (go_at_call 39;refine KE.out.mono ?_;rintro e w5 ⟨rfl,jg⟩;have kA:=O (iP.out.trans (jg.mono iP.out.size));clear jg)
      go_ret;exact⟨rfl,by first|exact kA.out|(rw[<-dv];exact kA.out)⟩
     |true=>
      have I:=Ky.out;rw[dy] at I;simp only[OU] at I;have L0:=O I;clear D I dy;go_wp2_with fail
      refine dx (λw'=>ab w' wr.heap.size 51 #[Y Z num,Y Z qu,U T (X B) gc,U mA (X ms) mc]/\w'.cell? (al.add j)=some (Y Z nm)) 10 [(0,true),(1,true),(2,true),(3,true),(4,true),(5,true),(6,true),(7,true),(8,true),(9,true)] (Kz.out) (λPE av=>?_)
      iterate 10
       refine bh (v:=?_) rfl (by rfl) ?_ ?_
       rotate_left
       ·intro _ C;(try dsimp only at C);have a0:=C.1.cell 0;have a1:=C.2;have a2:=C.1.cell 1;have a3:=C.1.cell 2;have a4:=C.1.cell 3;(try dsimp only at a0 a2 a3 a4);go_simp;(try with_reducible rfl)
       simp only[J,OB,OA]
      (refine av _ _ ?_;simp only[OG,OT];clear av PE)
      go_wp2_with (go_at_call 39;refine KE.out.mono ?_;rintro e w5 ⟨rfl,jg⟩;have kA:=O (iP.out.trans (jg.mono iP.out.size));have KG:=O (bL KZ.out jg (OI _));clear jg)
      go_roundg gk
      case measure=>omega
      case rel=>exact⟨j+1,by have:=KX.out;omega,rfl,L0,O (by first|exact kA.out|(rw[<-dv];exact kA.out)),O (by first|exact KG.out|(rw[<-dv];exact KG.out))⟩
    ·have hq:(num !=nm)=true:=by simpa using D
     have I:=Ky.out;have dy:(num==nm)=false:=(by simpa using D);rw[dy] at I;simp only[OS] at I;have hv:=HV.out;rw[<-I] at hv;simp only[OL,if_false] at hv;subst hv;clear CG D I dy;go_wp2_with fail
     refine dx (λw'=>ab w' wr.heap.size 51 #[Y Z num,Y Z qu,U T (X B) gc,U mA (X ms) mc]/\w'.cell? (al.add j)=some (Y Z nm)) 10 [(0,true),(1,true),(2,true),(3,true),(4,true),(5,true),(6,true),(7,true),(8,true),(9,true)] (Kz.out) (λPE av=>?_)
     iterate 8
      refine bh (v:=?_) rfl (by rfl) ?_ ?_
      rotate_left
      ·intro _ C;(try dsimp only at C);have a0:=C.1.cell 0;have a1:=C.2;(try dsimp only at a0);go_simp;(try with_reducible rfl)
      simp only[J,OB,OA]
     iterate 2
      refine iw rfl (by rfl) ?_
      simp only[J,OB,OA]
     (refine av _ _ ?_;simp only[OG,OT];clear av PE)
     go_wp2_with fail
     go_ret;exact⟨rfl,by first|exact iP.out|(rw[<-dv];exact iP.out)⟩
theorem fE (A B:Option Addr)(n m c d:Nat)(l k:List UInt8)(w:World)(D:Sl w A (l.map ag))(G:Sl w B (k.map ag))(j:X l=n)(I:X k=m):
  Calls OH 14 #[U A n c,U B m d] w λe w'=>e=OK (OY (l==k))/\w=w':=by
 have C:∀(A:Option Addr)(l:List UInt8)(n c:Nat),Sl w A (l.map ag)->X l=n->(convert 25 9 (U A n c)).run OH w= .ok (.string (bs l)) w:= λA l n c h j=>g8 (P:=OH) 25 9 5 (by kernel_rfl) (by kernel_rfl) (by kernel_rfl) h n c j;have K:=C A l n c D j;have M:=C B k m d G I;clear C D G j I
 go_enter Tryz.func14,Tryz.ntmps14
 go_wp2_with fail
 go_ret;exact⟨rfl,rfl⟩
theorem xt (tm ty:Int)(l:List UInt8)(A B:Option Addr)(n c d:Nat)(w:World)(G:Sl w A (l.map ag))(I:Sl w B (l.map ag))(D:X l=n):
  Calls OH 97 #[.agg #[Y Z tm,Y Z ty,U A n c],.agg #[Y Z tm,Y Z ty,U B n d]] w λe w'=>e=OK (OY true)/\Below w.heap.size w w':=by
 have j:Below w.heap.size w ((w.alloc (OC #[Y Z tm,Y Z ty,U A n c] 32)).alloc (OC #[Y Z tm,Y Z ty,U B n d] 32)):=((Below.refl _ _).alloc (OI _) _).alloc (by simp) _;have C:=O (fE A B n n c d l l _ (G.below j) (I.below j) D D);rw[beq_self_eq_true] at C;have K:=O j;clear G I D j
 go_enter Tryz.func97,Tryz.ntmps97
 go_wp2_with (go_at_call 14;refine C.out.mono ?_;rintro e M ⟨rfl,rfl⟩)
 go_ret;exact⟨rfl,K.out⟩
theorem vG (p q:cQ)(w:World)(he:p.g=q.g)(hp:km w p)(hq:km w q)(KA:ra p)(KB:ra q):
  Calls OH 98 #[pg p,pg q] w λe w'=>e=OK (OY true)/\Below w.heap.size w w':=by
 obtain⟨num,qu,sp,sA,sc,xs,A,c⟩:=p;obtain⟨KD,KF,KG,sB,sd,ys,B,d⟩:=q;unfold cQ.g at he;dsimp only at he;injection he with h1 h2 h3 h4;subst h1 h2 h3;obtain⟨dO,eE,fJ⟩:=hp;obtain⟨gj,iP,jg⟩:=hq;obtain⟨_,K3,jY⟩:=KA;obtain⟨_,_,kA⟩:=KB;unfold pg;dsimp only at dO eE fJ gj iP jg K3 jY kA⊢;have G:X ys=(X xs):=by have h:=congrArg List.length h4;simpa using h.symm
 obtain⟨n,hn⟩:∃n,X xs=n:=⟨_,rfl⟩;obtain⟨k,hk⟩:∃k,X sp=k:=⟨_,rfl⟩;rw[G,hn,hk];rw[hn] at G K3;have D:Below w.heap.size w ((w.alloc (OC #[Y Z num,Y Z qu,U sA k sc,U A n c] 51)).alloc (OC #[Y Z num,Y Z qu,U sB k sd,U B n d] 51)):=((Below.refl _ _).alloc (OI _) _).alloc (by simp) _;have CB:=O (fE sA sB k k sc sd sp sp _ (dO.below D) (gj.below D) hk hk);rw[beq_self_eq_true] at CB;obtain⟨g1,cE⟩:∃g,w.heap.size=g:=⟨_,rfl⟩;have K8:=O cE;have K:ab ((w.alloc (OC #[Y Z num,Y Z qu,U sA k sc,U A n c] 51)).alloc (OC #[Y Z num,Y Z qu,U sB k sd,U B n d] 51)) g1 51 #[Y Z num,Y Z qu,U sA k sc,U A n c]:=(aE (ab.new _ _ _) cE).alloc _;have M:ab ((w.alloc (OC #[Y Z num,Y Z qu,U sA k sc,U A n c] 51)).alloc (OC #[Y Z num,Y Z qu,U sB k sd,U B n d] 51)) (g1+1) 51 #[Y Z num,Y Z qu,U sB k sd,U B n d]:=aE (ab.new _ _ _) (by simp[cE]);have kU:=O (eE.below D);have rG:=O (iP.below D);have Hu:=O (λm hm=>(fJ m hm).below D);have JT:=O (λm hm=>(jg m hm).below D);have Ku:=O jY;have Kv:=O kA;have K6:=O h4;have K5:=O D;have HN:=O hn;have HK:=O G;have aJ:=O K;have Hl:=O M;have x0:=K.cell 0;have x1:=K.cell 1;have x2:=K.cell 2;have x3:=K.cell 3;have v0:=M.cell 0;have v1:=M.cell 1;have v2:=M.cell 2;have v3:=M.cell 3;(try dsimp only at x0 x1 x2 x3 v0 v1 v2 v3);clear dO eE fJ gj iP jg jY kA h4 G hn hk D K M
 go_enter Tryz.func98,Tryz.ntmps98
 go_wp2_with (go_at_call 14;refine CB.out.mono ?_;rintro e w2 ⟨rfl,rfl⟩)
 generalize (w.alloc (OC #[Y Z num,Y Z qu,U sA k sc,U A n c] 51)).alloc (OC #[Y Z num,Y Z qu,U sB k sd,U B n d] 51)=W1 at*;clear CB x0 x1 x2 x3 v0 v1 v2 v3 cE
 go_loopg [5] n (λg i=> λwr=>∃(j:Nat),j+g=n/\i=Y Z (j:Int)/\Hid (Below W1.heap.size W1 wr))
 case atStart=>exact⟨0,by omega,rfl,O (Below.refl _ _)⟩
 case round=>
  obtain⟨j,hj,rfl,HI⟩:=hrel;have hz:=(aJ.out.below HI.out aJ.out.lt).cell 3;(try dsimp only at hz)
  cases gk with
  |zero=>
   have Kz:¬((j:Int)<(n:Int)):=(by omega);clear hj;go_wp2_with fail
   go_ret;exact⟨rfl,by have h:=K5.out;rw[<-K8.out] at*;exact h.trans (HI.out.mono h.size)⟩
  |succ g=>
   have Kz:((j:Int)<(n:Int)):=(by omega);have KC:¬((j:Int)<0):=(by omega);have T:j<(X xs):=(by rw[HN.out];omega);have av:j<(X ys):=(by rw[HK.out];omega);obtain⟨a,rfl,Kx⟩:=iB (kU.out.below HI.out) j T;obtain⟨b,rfl,Ky⟩:=iB (rG.out.below HI.out) j av;obtain⟨p,hp⟩:∃p,xs[j]=p:=⟨_,rfl⟩;obtain⟨q,hq⟩:∃q,ys[j]=q:=⟨_,rfl⟩
   have HC:Hid (∀W,Sl W (some a) (az eX xs)/\Sl W (some b) (az eX ys)->(W.cell? (a.add (j*7))=some (Y Z p.m.ad)/\W.cell? ⟨(a.add (j*7)).block,(a.add (j*7)).off+1,none⟩=some (Y Z p.m.kd)/\W.cell? ⟨(a.add (j*7)).block,(a.add (j*7)).off+2,none⟩=some (Y Z p.m.qu)/\W.cell? ⟨(a.add (j*7)).block,(a.add (j*7)).off+3,none⟩=some (Y Z p.m.x)/\W.cell? ⟨(a.add (j*7)).block,(a.add (j*7)).off+4,none⟩=some (Y Z p.m.y)/\W.cell? ⟨(a.add (j*7)).block,(a.add (j*7)).off+5,none⟩=some (Y Z p.m.pa)/\W.cell? ⟨(a.add (j*7)).block,(a.add (j*7)).off+6,none⟩=some (U p.A (X p.xs) p.c))/\(W.cell? (b.add (j*7))=some (Y Z q.m.ad)/\W.cell? ⟨(b.add (j*7)).block,(b.add (j*7)).off+1,none⟩=some (Y Z q.m.kd)/\W.cell? ⟨(b.add (j*7)).block,(b.add (j*7)).off+2,none⟩=some (Y Z q.m.qu)/\W.cell? ⟨(b.add (j*7)).block,(b.add (j*7)).off+3,none⟩=some (Y Z q.m.x)/\W.cell? ⟨(b.add (j*7)).block,(b.add (j*7)).off+4,none⟩=some (Y Z q.m.y)/\W.cell? ⟨(b.add (j*7)).block,(b.add (j*7)).off+5,none⟩=some (Y Z q.m.pa)/\W.cell? ⟨(b.add (j*7)).block,(b.add (j*7)).off+6,none⟩=some (U q.A (X q.xs) q.c))):=O λW hW=>by
    obtain⟨a',e1,_,c0,c1,c2,c3,c4,c5,c6⟩:=iB hW.1 j T;obtain⟨b',e2,_,d0,d1,d2,d3,d4,d5,d6⟩:=iB hW.2 j av
    cases e1;cases e2
    rw[hp] at c0 c1 c2 c3 c4 c5 c6;rw[hq] at d0 d1 d2 d3 d4 d5 d6;exact⟨⟨c0,c1,c2,c3,c4,c5,c6⟩,d0,d1,d2,d3,d4,d5,d6⟩
   have KE:OQ.wrap ((j:Int)+1)=(j:Int)+1:=(by rw[OJ];omega);have Kt:=O hj;have C:Below W1.heap.size W1 wr.drew:=HI.out.drew;have Ht:=O C;have cI:p∈xs:=(by rw[<-hp];exact OF T);have dv:q∈ys:=by rw[<-hq];exact OF av
   have K4:p.m=q.m:=by
    have h:=congrArg (λl=>l[j]?) K6.out;simp only[OM,OE T,OE av,OP,Option.some.injEq] at h;rw[hp,hq] at h;exact h
   have bM:Hid ((aa [(g1,51,#[Y Z num,Y Z qu,U sA k sc,U (some a) n c]),(g1+1,51,#[Y Z num,Y Z qu,U sB k sd,U (some b) n d])] wr.drew)/\Sl wr.drew (some a) (az eX xs)/\Sl wr.drew (some b) (az eX ys)):=O ⟨aa.cons (aJ.out.below C aJ.out.lt) (aa.cons (Hl.out.below C Hl.out.lt) (ai _)),kU.out.below C,rG.out.below C⟩;have dy:=vH p.m q.m p.xs q.xs p.A q.A p.c q.c wr.drew (Hu.out p cI).e (JT.out q dv).e (((Hu.out p cI).below C).bks (Ku.out p cI)) (((JT.out q dv).below C).bks (Kv.out q dv));rw[pO.2 K4] at dy;unfold dU at dy;have Kw:=O dy;clear dy;clear Kx Ky hj hp hq C cI dv K4 T av;go_wp2_with fail
   refine aP (λW=>(aa [(g1,51,#[Y Z num,Y Z qu,U sA k sc,U (some a) n c]),(g1+1,51,#[Y Z num,Y Z qu,U sB k sd,U (some b) n d])] W)/\Sl W (some a) (az eX xs)/\Sl W (some b) (az eX ys)) 12 (OD 0 (OD 1 (OD 2 (OD 3 (OD 4 (OD 5 (OD 6 (OD 7 (OD 8 (OD 9 (OZ 10 (OD 11 .done)))))))))))) (bM.out) (λPE K0=>?_)
   iterate 10
    refine af (v:=?_) rfl (by rfl) ?_ ?_
    rotate_left
    ·intro _ I;(try dsimp only at I);obtain⟨⟨z0,z1,z2,z3,z4,z5,z6⟩,y0,y1,y2,y3,y4,y5,y6⟩:=HC.out _ I.2;have z7:=I.1.head.cell 3;have z8:=I.1.tail.head.cell 3;(try dsimp only at z7 z8);go_simp;(try with_reducible rfl)
    simp only[J,OB,OA]
   refine aG (f:=151) rfl (by rfl) (by first|(go_simp;done)|(go_simp;rfl)) Kw.out ?_;rintro e w2 ⟨rfl,N⟩;have K9:=O (Ht.out.trans (N.mono Ht.out.size));refine⟨_,rfl,_,λ_ h=>h,⟨bM.out.1.below N,bM.out.2.1.below N,bM.out.2.2.below N⟩,?_⟩;simp only[J,OB,OA];refine af (v:=?_) rfl (by rfl) ?_ ?_;rotate_left
   ·intro _ I;(try dsimp only at I);go_simp;(try with_reducible rfl)
   simp only[J,OB,OA];refine K0 _ _ ?_;clear K0 PE;simp only[OG,OV];clear N hz;go_wp2_with fail
   refine⟨rfl,?_⟩;go_wp2_with fail
   go_roundg g
   case measure=>omega
   case rel=>exact⟨j+1,by have:=Kt.out;omega,rfl,K9⟩
theorem xu (p q:a8)(w:World)(he:p.s=q.s)(hp:fo w p)(hq:fo w q)(KI:eF p)(KJ:eF q):
  Calls OH 54 #[fY p,fY q] w λe w'=>e=OK (OY true)/\Below w.heap.size w w':=by
 obtain⟨num,qu,sp,sA,sc,xs,A,c⟩:=p;obtain⟨KL,KN,KO,sB,sd,ys,B,d⟩:=q;unfold a8.s at he;dsimp only at he;injection he with h1 h4;injection h1 with h1 h2 h3;subst h1 h2 h3;obtain⟨dO,eE,fJ⟩:=hp;obtain⟨iP,jg,jY⟩:=hq;obtain⟨_,K5,kU⟩:=KI;obtain⟨_,_,rG⟩:=KJ;unfold fY;dsimp only at dO eE fJ iP jg jY K5 kU rG⊢;have I:X ys=(X xs):=by have h:=congrArg List.length h4;simpa using h.symm
 obtain⟨n,hn⟩:∃n,X xs=n:=⟨_,rfl⟩;obtain⟨k,hk⟩:∃k,X sp=k:=⟨_,rfl⟩;rw[I,hn,hk];rw[hn] at I K5;have G:Below w.heap.size w ((w.alloc (OC #[Y Z num,Y Z qu,U sA k sc,U A n c] 35)).alloc (OC #[Y Z num,Y Z qu,U sB k sd,U B n d] 35)):=((Below.refl _ _).alloc (OI _) _).alloc (by simp) _;have CB:=O (xt num qu sp sA sB k sc sd _ (dO.below G) (iP.below G) hk);obtain⟨g1,cI⟩:∃g,w.heap.size=g:=⟨_,rfl⟩;have Kv:=O cI;have M:ab ((w.alloc (OC #[Y Z num,Y Z qu,U sA k sc,U A n c] 35)).alloc (OC #[Y Z num,Y Z qu,U sB k sd,U B n d] 35)) g1 35 #[Y Z num,Y Z qu,U sA k sc,U A n c]:=(aE (ab.new _ _ _) cI).alloc _;have N:ab ((w.alloc (OC #[Y Z num,Y Z qu,U sA k sc,U A n c] 35)).alloc (OC #[Y Z num,Y Z qu,U sB k sd,U B n d] 35)) (g1+1) 35 #[Y Z num,Y Z qu,U sB k sd,U B n d]:=aE (ab.new _ _ _) (by simp[cI]);have K8:=O (eE.below G);have Kt:=O (jg.below G);have KA:=O (λm hm=>(fJ m hm).below G);have KB:=O (λm hm=>(jY m hm).below G);have KC:=O kU;have KD:=O rG;have Ku:=O h4;have JT:=O G;have HN:=O hn;have HK:=O I;have bM:=O (And.intro M N);have x0:=M.cell 0;have x1:=M.cell 1;have x2:=M.cell 2;have x3:=M.cell 3;have v0:=N.cell 0;have v1:=N.cell 1;have v2:=N.cell 2;have v3:=N.cell 3;(try dsimp only at x0 x1 x2 x3 v0 v1 v2 v3);clear dO eE fJ iP jg jY kU rG h4 I hn hk G M N
 go_enter Tryz.func54,Tryz.ntmps54
 go_wp2_with (go_at_call 97;refine CB.out.mono ?_;rintro e W1 ⟨rfl,C⟩;have dv:=bM.out.1.below C bM.out.1.lt;have dy:=bM.out.2.below C bM.out.2.lt;have aJ:=O dv;have K0:=O dy;have K9:=O C;have Ht:=O (K8.out.below C);have Hu:=O (Kt.out.below C);have Ky:=O (λm hm=>(KA.out m hm).below C);have Kz:=O (λm hm=>(KB.out m hm).below C);have u3:=dv.cell 3;have w3:=dy.cell 3;(try dsimp only at u3 w3);clear C dv dy x0 x1 x2 x3 v0 v1 v2 v3)
 clear CB u3 w3 cI
 go_loopg [5] n (λg i=> λwr=>∃(j:Nat),j+g=n/\i=Y Z (j:Int)/\Hid (Below W1.heap.size W1 wr))
 case atStart=>exact⟨0,by omega,rfl,O (Below.refl _ _)⟩
 case round=>
  obtain⟨j,hj,rfl,HI⟩:=hrel;have hz:=(aJ.out.below HI.out aJ.out.lt).cell 3;(try dsimp only at hz)
  cases gk with
  |zero=>
   have KH:¬((j:Int)<(n:Int)):=(by omega);clear hj;go_wp2_with fail
   go_ret;exact⟨rfl,by have h:=JT.out.trans (K9.out.mono JT.out.size);rw[<-Kv.out] at*;exact h.trans (HI.out.mono h.size)⟩
  |succ g=>
   have KH:((j:Int)<(n:Int)):=(by omega);have KK:¬((j:Int)<0):=(by omega);have T:j<(X xs):=(by rw[HN.out];omega);have av:j<(X ys):=(by rw[HK.out];omega);obtain⟨a,rfl,KF⟩:=jM (Ht.out.below HI.out) j T;obtain⟨b,rfl,KG⟩:=jM (Hu.out.below HI.out) j av;obtain⟨p,hp⟩:∃p,xs[j]=p:=⟨_,rfl⟩;obtain⟨q,hq⟩:∃q,ys[j]=q:=⟨_,rfl⟩
   have HC:Hid (∀W,Sl W (some a) (az fV xs)/\Sl W (some b) (az fV ys)->(W.cell? (a.add (j*4))=some (Y Z p.num)/\W.cell? ⟨(a.add (j*4)).block,(a.add (j*4)).off+1,none⟩=some (Y Z p.qu)/\W.cell? ⟨(a.add (j*4)).block,(a.add (j*4)).off+2,none⟩=some (U p.sA (X p.sp) p.sc)/\W.cell? ⟨(a.add (j*4)).block,(a.add (j*4)).off+3,none⟩=some (U p.A (X p.ms) p.c))/\(W.cell? (b.add (j*4))=some (Y Z q.num)/\W.cell? ⟨(b.add (j*4)).block,(b.add (j*4)).off+1,none⟩=some (Y Z q.qu)/\W.cell? ⟨(b.add (j*4)).block,(b.add (j*4)).off+2,none⟩=some (U q.sA (X q.sp) q.sc)/\W.cell? ⟨(b.add (j*4)).block,(b.add (j*4)).off+3,none⟩=some (U q.A (X q.ms) q.c))):=O λW hW=>by
    obtain⟨a',e1,_,c0,c1,c2,c3⟩:=jM hW.1 j T;obtain⟨b',e2,_,d0,d1,d2,d3⟩:=jM hW.2 j av
    cases e1;cases e2
    rw[hp] at c0 c1 c2 c3;rw[hq] at d0 d1 d2 d3;exact⟨⟨c0,c1,c2,c3⟩,d0,d1,d2,d3⟩
   have KM:OQ.wrap ((j:Int)+1)=(j:Int)+1:=(by rw[OJ];omega);have Kx:=O hj;have D:Below W1.heap.size W1 wr.drew:=HI.out.drew;have K3:=O D;have gj:p∈xs:=(by rw[<-hp];exact OF T);have kA:q∈ys:=by rw[<-hq];exact OF av
   have K6:p.g=q.g:=by
    have h:=congrArg (λl=>l[j]?) Ku.out;simp only[OM,OE T,OE av,OP,Option.some.injEq] at h;rw[hp,hq] at h;exact h
   have cE:Hid ((aa [(g1,35,#[Y Z num,Y Z qu,U sA k sc,U (some a) n c]),(g1+1,35,#[Y Z num,Y Z qu,U sB k sd,U (some b) n d])] wr.drew)/\Sl wr.drew (some a) (az fV xs)/\Sl wr.drew (some b) (az fV ys)):=O ⟨aa.cons (aJ.out.below D aJ.out.lt) (aa.cons (K0.out.below D K0.out.lt) (ai _)),Ht.out.below D,Hu.out.below D⟩;have Hl:=vG p q wr.drew K6 ((Ky.out p gj).below D) ((Kz.out q kA).below D) (KC.out p gj) (KD.out q kA);unfold pg at Hl;have KE:=O Hl;clear Hl;clear KF KG hj hp hq D gj kA K6 T av;go_wp2_with fail
   refine aP (λW=>(aa [(g1,35,#[Y Z num,Y Z qu,U sA k sc,U (some a) n c]),(g1+1,35,#[Y Z num,Y Z qu,U sB k sd,U (some b) n d])] W)/\Sl W (some a) (az fV xs)/\Sl W (some b) (az fV ys)) 12 (OD 0 (OD 1 (OD 2 (OD 3 (OD 4 (OD 5 (OD 6 (OD 7 (OD 8 (OD 9 (OZ 10 (OD 11 .done)))))))))))) (cE.out) (λPE K4=>?_)
   iterate 10
    refine af (v:=?_) rfl (by rfl) ?_ ?_
    rotate_left
    ·intro _ K;(try dsimp only at K);obtain⟨⟨z0,z1,z2,z3⟩,y0,y1,y2,y3⟩:=HC.out _ K.2;have z7:=K.1.head.cell 3;have z8:=K.1.tail.head.cell 3;(try dsimp only at z7 z8);go_simp;(try with_reducible rfl)
    simp only[J,OB,OA]
   refine aG (f:=98) rfl (by rfl) (by first|(go_simp;done)|(go_simp;rfl)) KE.out ?_;rintro e w2 ⟨rfl,C⟩;have Kw:=O (K3.out.trans (C.mono K3.out.size));refine⟨_,rfl,_,λ_ h=>h,⟨cE.out.1.below C,cE.out.2.1.below C,cE.out.2.2.below C⟩,?_⟩;simp only[J,OB,OA];refine af (v:=?_) rfl (by rfl) ?_ ?_;rotate_left
   ·intro _ K;(try dsimp only at K);go_simp;(try with_reducible rfl)
   simp only[J,OB,OA];refine K4 _ _ ?_;clear K4 PE;simp only[OG,OV];clear C hz;go_wp2_with fail
   refine⟨rfl,?_⟩;go_wp2_with fail
   go_roundg g
   case measure=>omega
   case rel=>exact⟨j+1,by have:=Kx.out;omega,rfl,Kw⟩
theorem vJ (xs I:List a8)(A B:Option Addr)(n m c d:Nat)(K:World)(hn:X xs=n)(hm:X I=m)(he:xs.map (·.s)=I.map (·.s))(hp:eV K A xs)(hq:eV K B I)(jY:∀s∈xs,eF s) (kA:∀s∈I,eF s) (Kt:n<=2 ^ 60):
  Calls OH 21 #[U A n c,U B m d] K λe w'=>e=OK (OY true)/\Below K.heap.size K w':=by
 obtain⟨eE,fJ⟩:=hp;obtain⟨iP,jg⟩:=hq;have dO:X I=(X xs):=by have h:=congrArg List.length he;simpa using h.symm
 have K8:n=m:=by omega
 subst K8;have cE:=O eE;have cI:=O iP;have Ht:=O fJ;have Hu:=O jg;have JT:=O jY;have K0:=O kA;have kU:=O he;have HN:=O hn;have HK:=O hm;clear eE fJ iP jg jY kA he dO hn hm
 go_enter Tryz.func21,Tryz.ntmps21
 go_wp2_with fail
 go_loopg [5] n (λg i=> λwr=>∃(j:Nat),j+g=n/\i=Y Z (j:Int)/\Hid (Below K.heap.size K wr))
 case atStart=>exact⟨0,by omega,rfl,O (Below.refl _ _)⟩
 case round=>
  obtain⟨j,hj,rfl,HI⟩:=hrel;have _t:=trivial
  cases gk with
  |zero=>
   have K6:¬((j:Int)<(n:Int)):=(by omega);clear hj;go_wp2_with fail
   go_ret;exact⟨rfl,HI.out⟩
  |succ g=>
   have K6:((j:Int)<(n:Int)):=(by omega);have K9:¬((j:Int)<0):=(by omega);have D:j<(X xs):=(by rw[HN.out];omega);have G:j<(X I):=(by rw[HK.out];omega);obtain⟨a,rfl,K4⟩:=iC (cE.out.below HI.out) j D;obtain⟨b,rfl,K5⟩:=iC (cI.out.below HI.out) j G;obtain⟨p,hp⟩:∃p,xs[j]=p:=⟨_,rfl⟩;obtain⟨q,hq⟩:∃q,I[j]=q:=⟨_,rfl⟩
   have HC:Hid (∀W,Sl W (some a) (az eu xs)/\Sl W (some b) (az eu I)->(W.cell? (a.add (j*4))=some (Y Z p.tm)/\W.cell? ⟨(a.add (j*4)).block,(a.add (j*4)).off+1,none⟩=some (Y Z p.ty)/\W.cell? ⟨(a.add (j*4)).block,(a.add (j*4)).off+2,none⟩=some (U p.sA (X p.sp) p.sc)/\W.cell? ⟨(a.add (j*4)).block,(a.add (j*4)).off+3,none⟩=some (U p.A (X p.gs) p.c))/\(W.cell? (b.add (j*4))=some (Y Z q.tm)/\W.cell? ⟨(b.add (j*4)).block,(b.add (j*4)).off+1,none⟩=some (Y Z q.ty)/\W.cell? ⟨(b.add (j*4)).block,(b.add (j*4)).off+2,none⟩=some (U q.sA (X q.sp) q.sc)/\W.cell? ⟨(b.add (j*4)).block,(b.add (j*4)).off+3,none⟩=some (U q.A (X q.gs) q.c))):=O λW hW=>by
    obtain⟨a',e1,_,c0,c1,c2,c3⟩:=iC hW.1 j D;obtain⟨b',e2,_,d0,d1,d2,d3⟩:=iC hW.2 j G
    cases e1;cases e2
    rw[hp] at c0 c1 c2 c3;rw[hq] at d0 d1 d2 d3;exact⟨⟨c0,c1,c2,c3⟩,d0,d1,d2,d3⟩
   have Ku:OQ.wrap ((j:Int)+1)=(j:Int)+1:=(by rw[OJ];omega);have Hl:=O hj;have C:Below K.heap.size K wr.drew:=HI.out.drew;have dv:=O C;have av:p∈xs:=(by rw[<-hp];exact OF D);have aJ:q∈I:=by rw[<-hq];exact OF G
   have gj:p.s=q.s:=by
    have h:=congrArg (λl=>l[j]?) kU.out;simp only[OM,OE D,OE G,OP,Option.some.injEq] at h;rw[hp,hq] at h;exact h
   have T:Hid (Sl wr.drew (some a) (az eu xs)/\Sl wr.drew (some b) (az eu I)):=O ⟨cE.out.below C,cI.out.below C⟩;have bM:=xu p q wr.drew gj ((Ht.out p av).below C) ((Hu.out q aJ).below C) (JT.out p av) (K0.out q aJ);unfold fY at bM;have K3:=O bM;clear bM;clear K4 K5 hj hp hq C av aJ gj D G;go_wp2_with fail
   refine aP (λW=>Sl W (some a) (az eu xs)/\Sl W (some b) (az eu I)) 10 (OD 0 (OD 1 (OD 2 (OD 3 (OD 4 (OD 5 (OD 6 (OD 7 (OZ 8 (OD 9 .done)))))))))) (T.out) (λPE dy=>?_)
   iterate 8
    refine af (v:=?_) rfl (by rfl) ?_ ?_
    rotate_left
    ·intro _ M;(try dsimp only at M);obtain⟨⟨z0,z1,z2,z3⟩,y0,y1,y2,y3⟩:=HC.out _ M;go_simp;(try with_reducible rfl)
    simp only[J,OB,OA]
   refine aG (f:=54) rfl (by rfl) (by first|(go_simp;done)|(go_simp;rfl)) K3.out ?_;rintro e w2 ⟨rfl,N⟩;have rG:=O (dv.out.trans (N.mono dv.out.size));refine⟨_,rfl,_,λ_ h=>h,⟨T.out.1.below N,T.out.2.below N⟩,?_⟩;simp only[J,OB,OA];refine af (v:=?_) rfl (by rfl) ?_ ?_;rotate_left
   ·intro _ M;(try dsimp only at M);go_simp;(try with_reducible rfl)
   simp only[J,OB,OA];refine dy _ _ ?_;clear dy PE;simp only[OG,OV];clear N;go_wp2_with fail
   refine⟨rfl,?_⟩;go_wp2_with fail
   go_roundg g
   case measure=>omega
   case rel=>exact⟨j+1,by have:=Hl.out;omega,rfl,rG⟩
end Go.Proofs.YthhijgcfbjcgiaaGreatDoor

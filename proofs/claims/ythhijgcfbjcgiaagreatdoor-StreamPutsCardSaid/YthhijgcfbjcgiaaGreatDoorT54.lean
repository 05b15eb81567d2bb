/- RAdr, RBits, RPenB, RPutS -/
import Derived.Test.YthhijgcfbjcgiaaGreatDoorT02
import Derived.Test.YthhijgcfbjcgiaaGreatDoorT10
import Derived.Test.YthhijgcfbjcgiaaGreatDoorT49
import Derived.Test.YthhijgcfbjcgiaaGreatDoorT52
namespace Go.Proofs.YthhijgcfbjcgiaaGreatDoor
section
open Go Go.RowKit
open Tryz renaming ntmps70→O,func70→U,prog→Z
open Go.Ending renaming returned→V
set_option maxRecDepth 100000 in
theorem zF (w:World):Calls Z 115 #[] w λe w'=>∃A,e=V (.slice A 35 35)/\Sl w' A (fD.map aR)/\Below w.heap.size w w':=by
 go_enter Tryz.func115,Tryz.ntmps115
 go_wp2_with fail
 go_ret;exact⟨_,rfl,ab.sl (ab.new w 9 (fD.map aR).toArray) 0,(Below.refl _ _).alloc (Nat.le_refl _) _⟩
set_option maxHeartbeats 400000 in
theorem EA (d:Int)(w:World)(hd: -9223372036854775808<=d/\d<=9223372036854775807):
  Calls Z 70 #[.int .i64 d] w λe w'=>e=V (.tuple #[.string (bs (iX d).1),.int .i64 (iX d).2])/\Below w.heap.size w w':=by
 by_cases C:d<0
 ·have I:decide (d<0)=true:=by simpa using C
  go_enter U,O
  go_wp2_with fail
  go_ret2;refine⟨?_,Below.refl _ _⟩;rw[iX,if_pos (.inl C)];rfl
 ·have I:decide (d<0)=false:=by simpa using C
  by_cases N:33<d
  ·go_enter U,O
   go_wp2_with fail
   go_ret2;refine⟨?_,Below.refl _ _⟩;rw[iX,if_pos (.inr (by omega))];rfl
  ·obtain⟨k,rfl⟩:=Int.eq_ofNat_of_zero_le (by omega:0<=d)
   have G:k<(List.length aU):=(by rw[dP];omega);have B:=Lib.hid G;clear G
   have j:iX (k:Int)=(aU[k]'B.out,0):=by
    rw[iX,if_neg (by omega)];simp[List.getD,B.out]
   rw[j];clear j
   go_enter U,O
   go_wp2_with fail
   refine(zF w).mono ?_;rintro e T ⟨A,rfl,K,M⟩;obtain⟨ad,rfl,_,D⟩:=K.at_ k (by rw[List.length_map];have:=B.out;simp[fD];omega);rw[List.getElem_map,show fD[k]'(by have:=B.out;simp[fD];omega)=aU[k]'B.out from List.getElem_append_left B.out] at D;unfold aR at D;go_wp2_with fail
   go_ret2;exact⟨rfl,M⟩
end
open Go Go.RowKit
attribute [local go_sem] Oper.semAt_some
set_option maxHeartbeats 16000000
set_option maxRecDepth 100000
open Go.Lib renaming hid→O
open List renaming length→U,setIfInBounds_toArray→Z,set_cons_succ→OA,set_cons_zero→OB,length_append→OC,length_map→OF,take_of_length_le→OG,append_assoc→OH,drop_succ_cons→OJ,getElem_mem→OL,append_nil→ON,getElem_map→OP,getElem?_eq_none→OR,take_zero→OS,drop_zero→OW,replicate→OX,drop_nil→OZ
open Go.Proofs.YthhijgcfbjcgiaaGreatDoor.bY renaming take→V,step→OV
open Go.Value renaming int→Y,slice→X,bool→Oc,string→Of
open Go.IntKind renaming i64→J,wrap_i64→OD,i64→OI,u8→Og
open Nat renaming le_refl→OE,mul_one→OU,reducePow→Oa,reduceSub→Ob
open Go.Obj renaming cells→OK
open Tryz renaming prog→OM,ntmps13→Od,func13→Oe
open Int renaming tdiv_eq_ediv_of_nonneg→OO,eq_ofNat_of_zero_le→OQ,cast_ofNat_Int→OT,reduceSub→OY
open Go.Ending renaming returned→Oh
structure nw (w:World) (gg:Nat) (sh:Array Value) (g7:Nat) (cs:Array Value) (gl:Nat) (x:bA) (W:World):Prop where
 be:Below w.heap.size w W
 sh:ab W gg 35 sh
 gr:ab W g7 51 cs
 la:ab W gl 102 (kz x)
theorem nw.below {w:World}{D C G:Nat}{sh cs:Array Value}{x:bA}{W B:World}(k:nw w D sh C cs G x W)(j:Below W.heap.size W B):nw w D sh C cs G x B:=
 ⟨k.be.trans (j.mono k.be.size),k.sh.below j k.sh.lt,k.gr.below j k.gr.lt,k.la.below j k.la.lt⟩
theorem nw.drew {w:World}{B j C:Nat}{sh cs:Array Value}{x:bA}{W:World}(k:nw w B sh j cs C x W):nw w B sh j cs C x W.drew:=⟨k.be.drew,k.sh,k.gr,k.la⟩
theorem nw.last {w:World}{D C j:Nat}{sh cs:Array Value}{x:bA}{W:World}(k:nw w D sh C cs j x W)(B:w.heap.size<=j)(y:bA):nw w D sh C cs j y ((((W.setCell ⟨j,0,none⟩ (Y J y.ad)).setCell ⟨j,1,none⟩ (Oc y.had)).setCell ⟨j,2,none⟩ (Y J y.x)).setCell ⟨j,3,none⟩ (Y J y.y)):=by
 have G:=k.la.set_ 0 (Y J y.ad);have I:=G.set_ 1 (Oc y.had);have K:=I.set_ 2 (Y J y.x);have M:=K.set_ 3 (Y J y.y);have n1:=aT k.sh k.la (by decide);have n2:=aT k.gr k.la (by decide);refine⟨(((k.be.setCell (p:=⟨j,0,none⟩) B _).setCell (p:=⟨j,1,none⟩) B _).setCell (p:=⟨j,2,none⟩) B _).setCell (p:=⟨j,3,none⟩) B _,?_,?_,?_⟩
 ·exact(((k.sh.far (p:=⟨j,0,none⟩) n1 _).far (p:=⟨j,1,none⟩) n1 _).far (p:=⟨j,2,none⟩) n1 _).far (p:=⟨j,3,none⟩) n1 _
 ·exact(((k.gr.far (p:=⟨j,0,none⟩) n2 _).far (p:=⟨j,1,none⟩) n2 _).far (p:=⟨j,2,none⟩) n2 _).far (p:=⟨j,3,none⟩) n2 _
 ·unfold kz at*
  simpa using M
theorem Db (s:a8)(w:World)(hs:fo w s)(hS:eF s)(K6:cN s.s=true):
  Calls OM 34 #[fY s] w λe w'=>e=Oh (Of (bs (eN s.s)))/\Below w.heap.size w w':=by
 obtain⟨tm,ty,sp,sA,sc,gs,A,c⟩:=s;obtain⟨av,K9,L8⟩:=hs;obtain⟨LF,LG,Ld⟩:=hS;dsimp only at av K9 L8 LF LG Ld;have hl:=uY K6;unfold a8.s at K6 hl⊢;unfold fY;dsimp only at K6 hl⊢;obtain⟨L9,L7⟩:=ls K6;dsimp only at L9 L7;unfold eN at hl⊢;dsimp only at hl⊢;have Lr:=O K9;have LP:=O L8;have LU:=O Ld;have LO:=O L7;have KF:dV 0++(kJ ⟨tm,ty,sp⟩++bU (gs.map (·.g)))=(dV 0++kJ ⟨tm,ty,sp⟩)++bU (gs.map (·.g)):=by simp only[OH]
 rw[KF] at hl⊢;have C1:=O (λW=>qR 0 (by decide) W);have C2:=O (λW (hb:Below w.heap.size w W)=>EF tm ty sp sA (U sp) sc W (av.below hb) rfl L9);simp only[Int.natCast_zero] at C1;generalize dV 0=S0 at C1 hl⊢;generalize kJ ⟨tm,ty,sp⟩=S1 at C2 hl⊢;have LY:U S0+U S1<=3200000:=by simp only[OC] at hl;omega
 have Lm:=O hl;obtain⟨L1,Kv⟩:∃L1,S0++S1=L1:=⟨_,rfl⟩;have Ll:=O Kv;have Lg:=O (show L1++bU (gs.map (·.g))=S0++(S1++bU (gs.map (·.g))) by rw[<-Kv,OH]);obtain⟨gg,L5⟩:∃b,w.heap.size=b:=⟨_,rfl⟩;have Ma:=O L5;obtain⟨k,hk⟩:∃k,U sp=k:=⟨_,rfl⟩;obtain⟨n,hn⟩:∃n,U gs=n:=⟨_,rfl⟩;have HN:=O hn;have Ls:Below w.heap.size w (w.alloc (OK #[Y J tm,Y J ty,X sA k sc,X A n c] 35)):=(Below.refl _ _).alloc (OE _) _;have Lv:ab (w.alloc (OK #[Y J tm,Y J ty,X sA k sc,X A n c] 35)) gg 35 #[Y J tm,Y J ty,X sA k sc,X A n c]:=aE (ab.new _ _ _) L5;have Le:=O Ls;have Lh:=O Lv;rw[hk] at C2;rw[hk,hn];rw[hn] at LG;clear av K9 L8 LF Ld K6 hl L9 L7 Ls Lv hn hk KF
 go_enter Tryz.func34,Tryz.ntmps34
 go_wp2_with (first|(go_at_call 67;refine(C1.out _).mono ?_;rintro e w1 ⟨rfl,L0⟩;have KO:=O (Le.out.trans (L0.mono Le.out.size));have KR:=O (Lh.out.below L0 Lh.out.lt);have y:=KR.out;have y0:=y.cell 0;have y1:=y.cell 1;have y2:=y.cell 2;(try dsimp only at y0 y1 y2);clear L0 y)|(go_at_call 68;refine(C2.out _ KO.out).mono ?_;rintro e w2 ⟨rfl,L4⟩;have LL:=O (KO.out.trans (L4.mono KO.out.size));have LM:=O (KR.out.below L4 KR.out.lt);clear L4 y0 y1 y2))
 (try rw[Kv]);clear Kv C1 C2 LY L5
 go_loopg [7,8] n (λgk o i=> λwr=>∃(j:Nat),j+gk=n/\o=Of (bs (L1++bU ((gs.map (·.g)).take j)))/\i=Y J (j:Int)/\Hid (Below w.heap.size w wr)/\Hid (ab wr gg 35 #[Y J tm,Y J ty,X sA k sc,X A n c]))
 case atStart=>exact⟨0,by omega,by rw[OS,bU,ON],rfl,LL,LM⟩
 case round=>
  obtain⟨j,hj,rfl,rfl,HB,HG⟩:=hrel;have y3:=HG.out.cell 3;(try dsimp only at y3)
  cases gk with
  |zero=>
   have M0:¬((j:Int)<(n:Int)):=(by omega);have KY:=O (show (gs.map (·.g)).take j=gs.map (·.g) from OG (by rw[OF,HN.out];omega));clear hj;go_wp2_with fail
   go_ret;exact⟨by(try rw[KY.out]);(first|rw[<-Lg.out]|rw[Ll.out]);rfl,HB.out⟩
  |succ go=>
   have M0:((j:Int)<(n:Int)):=(by omega);have Mb:¬((j:Int)<0):=(by omega);have KA:j<(U gs):=(by rw[HN.out];omega);have KB:j<(gs.map (·.g)).length:=(by rw[OF];exact KA);have Md:OI.wrap ((j:Int)+1)=(j:Int)+1:=(by rw[OD];omega);obtain⟨ad,rfl,_,c0,c1,c2,c3⟩:=jM (Lr.out.below HB.out) j KA;have B:=OL KA;obtain⟨nm,LA,kU⟩:=rj _ _ j KB LO.out;have av:=rW (gs.map (·.g)) j KB;have rG:=jn (gs.map (·.g)) j KB;rw[OP] at kU av rG;obtain⟨G,hG⟩:∃G,gs[j]=G:=⟨_,rfl⟩;rw[hG] at B c0 c1 c2 c3 kU av rG;have LW:=LP.out _ B;have M5:=LU.out _ B;obtain⟨num,qu,cE,gA,gc,ms,mA,mc⟩:=G;rw[show (⟨num,qu,cE,gA,gc,ms,mA,mc⟩:cQ).g=⟨num,qu,cE,ms.map (·.m)⟩ from rfl] at kU av rG;dsimp only at c0 c1 c2 c3 kU av rG;obtain⟨KK,LC,LD,fJ,eE⟩:=lA kU;dsimp only at KK LC LD fJ eE;obtain⟨M4,Lz⟩:=xe LA;subst KK;obtain⟨N,rfl⟩:=OQ (by omega:0<=num);obtain⟨q,rfl⟩:=OQ (by omega:0<=qu);obtain⟨JT,dO,K0⟩:=LW;obtain⟨_,KI,K5⟩:=M5;dsimp only at JT dO K0 KI K5
   have K:(L1++bU ((gs.map (·.g)).take j)).length+(j8 ⟨(N:Int),q,cE,ms.map (·.m)⟩).length<=3200000:=by
    have:=Lm.out;rw[av,Ll.out] at this;simp only[OC] at this⊢;omega
   have T:(L1++bU ((gs.map (·.g)).take j))++j8 ⟨(N:Int),q,cE,ms.map (·.m)⟩=L1++bU ((gs.map (·.g)).take (j+1)):=by
    rw[rG,mK,bU,bU,ON,OH]
   generalize L1++bU ((gs.map (·.g)).take j)=M at K T⊢;unfold j8 at K T;dsimp only at K T;rw[Int.toNat_natCast] at K T;have Ht:=O dO;have KD:=O K0;have LR:=O K5;have LT:=O eE;have HJ:=O hj;have KN:=O (λW=>qR N (by omega) W);have Kt:=O (λW (hb:Below w.heap.size w W)=>EG q cE gA (U cE) gc W (JT.below hb) rfl (by omega) (by omega) fJ);obtain⟨sk,LH⟩:∃k,U cE=k:=⟨_,rfl⟩;obtain⟨mn,Lc⟩:∃k,U ms=k:=⟨_,rfl⟩;have Ln:=O Lc;rw[LH] at c2 Kt;rw[Lc] at c3 KI;obtain⟨S1,Kw⟩:∃S,dV (N:Int)=S:=⟨_,rfl⟩;obtain⟨S2,Kx⟩:∃S,ak q 5++dL cE=S:=⟨_,rfl⟩;have KL:(M++(S1++S2))++bS bE (ms.map (·.m))=L1++bU ((gs.map (·.g)).take (j+1)):=(by rw[<-T,<-Kw,<-Kx];simp only[OH]);have dv:(M++(S1++S2)).length+(bS bE (ms.map (·.m))).length<=3200000:=(by rw[<-Kw,<-Kx];simp only[OC] at K⊢;omega);rw[Kw] at KN;rw[Kx] at Kt;have Lw:U M+U S1<=3200000:=(by simp only[OC] at dv;omega);have LZ:U M+U S1+U S2<=3200000:=(by simp only[OC] at dv;omega);have I:(M++S1).length+U S2<=3200000:=(by simp only[OC] at dv⊢;omega);have KE:=O KL;have KC:=O dv;obtain⟨g7,LX⟩:∃g,wr.heap.size=g:=⟨_,rfl⟩;have kA:=(Below.refl _ wr).alloc (OE _) (OK #[Y J (N:Int),Y J (q:Int),X gA sk gc,X mA mn mc] 51);have KG:ab (wr.alloc (OK #[Y J (N:Int),Y J (q:Int),X gA sk gc,X mA mn mc] 51)) g7 51 #[Y J (N:Int),Y J (q:Int),X gA sk gc,X mA mn mc]:=aE (ab.new _ _ _) LX;have Lf:=O (HB.out.trans (kA.mono HB.out.size));have Lj:=O (HG.out.below kA HG.out.lt);have Lp:=O KG;clear B LA kU av rG hG KA KB eE JT dO K0 K5 M4 Lz K T hj kA KG LH Lc LC LD fJ HB HG Kw Kx KL dv;go_wp2_with (first|(go_at_call 67;refine(KN.out _).mono ?_;rintro e w5 ⟨rfl,Ky⟩;have KQ:=O (Lf.out.trans (Ky.mono Lf.out.size));have Li:=O (Lj.out.below Ky Lj.out.lt);have KW:=O (Lp.out.below Ky Lp.out.lt);have z:=KW.out;have z1:=z.cell 1;have z2:=z.cell 2;(try dsimp only at z1 z2);clear Ky z)|(go_at_call 69;refine(Kt.out _ KQ.out).mono ?_;rintro e w6 ⟨rfl,Kz⟩;obtain⟨gl,L6⟩:∃g,w6.heap.size=g:=⟨_,rfl⟩;have Ku:=O (KQ.out.trans (Kz.mono KQ.out.size));have KT:=O (Li.out.below Kz Li.out.lt);have KX:=O (KW.out.below Kz KW.out.lt);clear Kz z1 z2))
   have gj:=(Below.refl _ w6).alloc (OE _) (OK #[Y J 0,Oc false,Y J 0,Y J 0] 102);have LE:nw w gg #[Y J tm,Y J ty,X sA k sc,X (some ad) n c] g7 #[Y J (N:Int),Y J (q:Int),X gA sk gc,X mA mn mc] gl bE (w6.alloc (OK #[Y J 0,Oc false,Y J 0,Y J 0] 102)):=⟨Ku.out.trans (gj.mono Ku.out.size),KT.out.below gj KT.out.lt,KX.out.below gj KX.out.lt,aE (ab.new _ _ _) L6⟩;have Lq:=O LE;have LN:Hid (w.heap.size<=gl):=O (by rw[<-L6];exact Ku.out.size);clear gj LE;generalize w6.alloc (OK #[Y J 0,Oc false,Y J 0,Y J 0] 102)=w7 at Lq⊢;clear L6 Ku KT KX c0 c1 c2 c3 KN Kt Lw LZ I y3;generalize M++(S1++S2)=M2 at KE KC⊢
   go_loopg [7,15] mn (λgk o i=> λwr=>∃(C:Nat),C+gk=mn/\o=Of (bs (M2++bS bE ((ms.map (·.m)).take C)))/\i=Y J (C:Int)/\Hid (nw w gg #[Y J tm,Y J ty,X sA k sc,X (some ad) n c] g7 #[Y J (N:Int),Y J (q:Int),X gA sk gc,X mA mn mc] gl (eS bE ((ms.map (·.m)).take C)) wr))
   case atStart=>exact⟨0,by omega,by rw[OS,bS,ON],rfl,Lq⟩
   case round=>
    obtain⟨C,La,rfl,rfl,dy⟩:=hrel;have z3:=dy.out.gr.cell 3;(try dsimp only at z3)
    cases gk with
    |zero=>
     have Lx:¬((C:Int)<(mn:Int)):=(by omega);have KY:=O (show (ms.map (·.m)).take C=ms.map (·.m) from OG (by rw[OF,Ln.out];omega));clear La;go_wp2_with fail
     go_roundg go
     case measure=>omega
     case rel=>exact⟨j+1,by have:=HJ.out;omega,by rw[KY.out,KE.out],rfl,O dy.out.be,O dy.out.sh⟩
    |succ gi=>
     have Lx:((C:Int)<(mn:Int)):=(by omega);have M8:¬((C:Int)<0):=(by omega);have cI:C<(U ms):=(by rw[Ln.out];omega);have iP:C<(ms.map (·.m)).length:=(by rw[OF];exact cI);have M9:OI.wrap ((C:Int)+1)=(C:Int)+1:=(by rw[OD];omega);obtain⟨am,rfl,_,d0,d1,d2,d3,d4,d5,d6⟩:=iB (Ht.out.below dy.out.be) C cI;clear d0 d1 d2 d3 d4 d5 d6;have jg:=O (λW (hb:Below w.heap.size w W)=>iB (Ht.out.below hb) C cI);have B:=OL cI;have K8:=tJ (ms.map (·.m)) bE C iP (by decide) (λad h=>qy h) LT.out;have aJ:=sb (ms.map (·.m)) C iP;have bM:=jn (ms.map (·.m)) C iP;rw[OP] at K8 aJ bM;obtain⟨⟨m,xs,Am,cm⟩,hm⟩:∃m,ms[C]=m:=⟨_,rfl⟩;rw[hm] at B K8 aJ bM jg;dsimp only at K8 aJ bM jg;have K3:=KD.out _ B;have KJ:=LR.out _ B;have LJ:eS bE ((ms.map (·.m)).take (C+1))=dT m:=(by rw[bM];exact po _ _ _);have K4:bS bE ((ms.map (·.m)).take (C+1))=bS bE ((ms.map (·.m)).take C)++(aU.getD (m.ad - (eS bE ((ms.map (·.m)).take C)).ad).toNat []++dD m (eS bE ((ms.map (·.m)).take C))):=(by rw[bM];exact oh _ _ _);obtain⟨x,hx⟩:∃x,eS bE ((ms.map (·.m)).take C)=x:=⟨_,rfl⟩;rw[hx] at K8 aJ dy K4
     have Lb:(M2++bS bE ((ms.map (·.m)).take C)).length+(aU.getD (m.ad - x.ad).toNat []).length+(dD m x).length<=3200000:=by
      have:=KC.out;rw[aJ] at this;simp only[OC] at this⊢;omega
     obtain⟨M3,KZ⟩:∃M3,M2++bS bE ((ms.map (·.m)).take C)=M3:=⟨_,rfl⟩;have KH:M2++bS bE ((ms.map (·.m)).take (C+1))=(M3++aU.getD (m.ad - x.ad).toNat [])++dD m x:=(by rw[K4,<-KZ];simp only[OH]);rw[KZ] at Lb⊢;obtain⟨M6,M7,Ly,KM⟩:=K8;have LB:iX (m.ad - x.ad)=(aU.getD (m.ad - x.ad).toNat [],0):=(by unfold iX;rw[if_neg (by omega)]);have CA:=O (λW=>EA (m.ad - x.ad) W (by omega));rw[LB] at CA;dsimp only at CA;have Mc:OI.wrap (m.ad - x.ad)=m.ad - x.ad:=(by rw[OD];omega);generalize aU.getD (m.ad - x.ad).toNat []=cd at*;have LK:m.bl=xs.map (·.1):=K3.e;have CM:=O (λW (hb:Below w.heap.size w W)=>EH m x xs Am cm W LK (((KD.out _ B).below hb).bks KJ));rw[KM] at CM;have CF:=O (λW=>zN m Am (U xs) cm W);unfold dU dY at CM;dsimp only at CM;generalize dD m x=mp at*;have Lw:U M3+U cd<=3200000:=(by omega);have I:(M3++cd).length+U mp<=3200000:=(by rw[OC];exact Lb);have LV:=O LJ;have Lo:=O KH;have LQ:=O La;obtain⟨xl,LI⟩:∃n,U xs=n:=⟨_,rfl⟩;rw[LI] at CM CF jg;have KV:=O dy.out.drew;clear B aJ bM hm K3 KJ LJ K4 hx Lb KZ KH M6 M7 Ly KM LB LK LI cI iP La;go_wp2_with fail
     refine aP (λw'=>nw w gg #[Y J tm,Y J ty,X sA k sc,X (some ad) n c] g7 #[Y J (N:Int),Y J (q:Int),X gA sk gc,X (some am) mn mc] gl x w') 15 (V 0 (V 1 (V 2 (V 3 (V 4 (V 5 (V 6 (V 7 (V 8 (OV 9 (V 10 (V 11 (V 12 (OV 13 (OV 14 .done))))))))))))))) (KV.out) (λPE Hu=>?_)
     iterate 9
      refine af (v:=?_) rfl (by rfl) ?_ ?_
      rotate_left
      ·intro _ D;(try dsimp only at D);obtain⟨_,e,_,d0,d1,d2,d3,d4,d5,d6⟩:=jg.out _ D.be;cases e;have a3:=D.gr.cell 3;have l:=D.la;unfold kz at l;have l0:=l.cell 0;(try dsimp only at a3 l0);clear l;go_simp;(try with_reducible rfl)
      simp only[Z,OB,OA]
     refine aG (f:=70) rfl (by rfl) (by first|(go_simp;done)|(go_simp;rfl)) (CA.out _) ?_;rintro e w8 ⟨rfl,Lt⟩;have Hl:=O (KV.out.below Lt);clear Lt;refine⟨_,rfl,_,λ_ h=>h,Hl.out,?_⟩;simp only[Z,OB,OA]
     iterate 3
      refine af (v:=?_) rfl (by rfl) ?_ ?_
      rotate_left
      ·intro _ D;(try dsimp only at D);go_simp;(try with_reducible rfl)
      simp only[Z,OB,OA]
     refine aj (v:=?_) (w':=?_) rfl (by rfl) ?_ ?_ ?_;rotate_left 2
     ·go_simp;(try (constructor<;>with_reducible rfl))
     ·exact Hl.out
     simp only[Z,OB,OA];refine aj (v:=?_) (w':=?_) rfl (by rfl) ?_ ?_ ?_;rotate_left 2
     ·go_simp;(try (constructor<;>with_reducible rfl))
     ·exact Hl.out
     simp only[Z,OB,OA];refine Hu _ _ ?_;clear Hu PE;simp only[OJ,OZ];go_wp2_with fail
     refine⟨rfl,?_⟩;go_wp2_with fail
     have KU:=O Hl.out.drew;clear Hl KV dy z3;refine aP (λw'=>nw w gg #[Y J tm,Y J ty,X sA k sc,X (some ad) n c] g7 #[Y J (N:Int),Y J (q:Int),X gA sk gc,X (some am) mn mc] gl x w') 12 (V 0 (V 1 (V 2 (V 3 (V 4 (V 5 (OV 6 (V 7 (V 8 (V 9 (OV 10 (OV 11 .done)))))))))))) (KU.out) (λPE Hu=>?_)
     iterate 6
      refine af (v:=?_) rfl (by rfl) ?_ ?_
      rotate_left
      ·intro _ D;(try dsimp only at D);obtain⟨_,e,_,d0,d1,d2,d3,d4,d5,d6⟩:=jg.out _ D.be;cases e;have a3:=D.gr.cell 3;have l:=D.la;unfold kz at l;have l0:=l.cell 0;have l1:=l.cell 1;have l2:=l.cell 2;have l3:=l.cell 3;(try dsimp only at a3 l0 l1 l2 l3);clear l;go_simp;(try with_reducible rfl)
      simp only[Z,OB,OA]
     refine aG (f:=71) rfl (by rfl) (by first|(go_simp;done)|(go_simp;rfl)) (CM.out _ KU.out.be) ?_;rintro e wa ⟨rfl,kA⟩;have jY:=O (KU.out.below kA);clear kA;refine⟨_,rfl,_,λ_ h=>h,jY.out,?_⟩;simp only[Z,OB,OA]
     iterate 3
      refine af (v:=?_) rfl (by rfl) ?_ ?_
      rotate_left
      ·intro _ D;(try dsimp only at D);go_simp;(try with_reducible rfl)
      simp only[Z,OB,OA]
     refine aj (v:=?_) (w':=?_) rfl (by rfl) ?_ ?_ ?_;rotate_left 2
     ·go_simp;(try (constructor<;>with_reducible rfl))
     ·exact jY.out
     simp only[Z,OB,OA];refine aj (v:=?_) (w':=?_) rfl (by rfl) ?_ ?_ ?_;rotate_left 2
     ·go_simp;(try (constructor<;>with_reducible rfl))
     ·exact jY.out
     simp only[Z,OB,OA];refine Hu _ _ ?_;clear Hu PE;simp only[OJ,OZ];go_wp2_with fail
     refine⟨rfl,?_⟩;obtain⟨_,e,_,d0,d1,d2,d3,d4,d5,d6⟩:=jg.out _ jY.out.be
     cases e
     have a3:=jY.out.gr.cell 3;(try dsimp only at a3);go_wp2_with (go_at_call 72;refine(CF.out _).mono ?_;rintro e wc ⟨rfl,Lu⟩;have Lk:=O (jY.out.below Lu);have I:=Lk.out.la;unfold kz at I;have f0:=I.cell 0;have f1:=I.cell 1;have f2:=I.cell 2;have f3:=I.cell 3;have g0:=I.frozen 0;have g1:=I.frozen 1;have g2:=I.frozen 2;have g3:=I.frozen 3;(try dsimp only at f0 f1 f2 f3 g0 g1 g2 g3);clear Lu I)
     go_roundg gi
     case measure=>omega
     case rel=>exact⟨C+1,by have:=LQ.out;omega,by rw[Lo.out,OH],rfl,O (by rw[LV.out];exact Lk.out.last LN.out (dT m))⟩
def ft (B:Nat) (L:List UInt8):List UInt8:=(List.range B).map λj=>UInt8.ofNat (dW L j)
theorem iv (j:Nat)(L:List UInt8):(ft j L).length=j:=by simp[ft]
theorem pD (B:Nat)(L:List UInt8)(j:Nat)(h:j<B):(ft B L)[j]? =some (UInt8.ofNat (dW L j)):=by simp[ft,h]
theorem Em (B:Nat):ft B []=OX B 0:=by
 unfold ft;rw[List.eq_replicate_iff];refine⟨by simp,λb C=>?_⟩;obtain⟨j,_,rfl⟩:=List.mem_map.1 C;rw[nS [] j (Nat.zero_le _)];rfl
theorem Cm (B:Nat)(L:List UInt8)(c:UInt8)(h:U L / 8<B):ft B (L++[c])=(ft B L).set (U L / 8) (UInt8.ofNat (dW L (U L / 8)|||(jt c*2 ^ (7 - U L % 8)))):=by
 have C:dW L (U L / 8)|||(jt c*2 ^ (7 - U L % 8))=dW L (U L / 8)+jt c*2 ^ (7 - U L % 8):=by
  by_cases G:U L % 8=0
  ·rw[nS L _ (by omega),Nat.zero_add,Nat.zero_or]
  ·exact AR L (jt c) _ (AO c) rfl (by omega)
 rw[C];apply List.ext_getElem?;intro j
 by_cases D:j<B
 ·rw[pD _ _ _ D,lq]
  by_cases h2:j=U L / 8
  ·rw[if_pos h2,h2,List.getElem?_set_self (by rw[iv];exact h)]
  ·rw[if_neg h2,List.getElem?_set_ne (Ne.symm h2),pD _ _ _ D];rfl
 ·rw[OR (by rw[iv];omega),OR (by rw[List.length_set,iv];omega)]
theorem Ee (n:Nat):madeCells #[Y .u8 0] n=((OX n (0:UInt8)).map ag).toArray:=by
 apply Array.ext
 ·simp[madeCells]
 ·intro i j h2
  simp[madeCells,ag];rw[show i % 1=0 from Nat.mod_one i];rfl
theorem zE (w0:World)(g:Nat)(v:Value)(L:List UInt8)(w:World)(hp:oM w0 g v L w)(hM:∀c∈L,c=48\/c=49) (hl:U L<=16777216):
  Calls OM 35 #[.pointer (some ⟨g,0,none⟩)] w λe w'=>(∃A' c',e=Oh (X A' (bw L).length c')/\w'.ownsRow w.heap.size 5 1 (X A' (bw L).length c') (bw L).length ((bw L).map ag))/\Below w.heap.size w w':=by
 have HP:=O hp;have HM:=O hM;have HL:=O hl;obtain⟨A,c,hv⟩:=bg hp.row;subst hv;have z0:=hp.pn.cell 0;(try dsimp only at z0);have K8:bw L=ft ((U L+7) / 8) L:=rfl;rw[K8,iv];obtain⟨B,fJ⟩:∃B,(U L+7) / 8=B:=⟨_,rfl⟩;rw[fJ];have Kt:OI.wrap ((U L:Int)+7)=(U L:Int)+7:=by rw[OD];omega
 have K9:((U L:Int)+7).tdiv 8=(B:Int):=by rw[OO (by omega)];omega
 have Ku:OI.wrap (B:Int)=(B:Int):=by rw[OD];omega
 have K6:∀W:World,(Instr.makeSlice 25 (Y J (B:Int)) (Y J (B:Int))).run OM W= .ok (X (some ⟨W.heap.size,0,none⟩) B B) (W.alloc (OK ((ft B []).map ag).toArray 5)):= λW=>by
  rw[Em,<-Ee];exact run_make_row' (P:=OM) 25 5 (Y .u8 0) 1 Tryz.underlying25 (by kernel_rfl) rfl J J B (by omega) (by omega) W
 have jg:=O fJ;obtain⟨h,hh⟩:∃h,w.heap.size=h:=⟨_,rfl⟩;have HH:=O hh;have Hu:Hid (Below w.heap.size w (w.alloc (OK ((ft B []).map ag).toArray 5))):=O ((Below.refl _ _).alloc (OE _) _);have JT:Hid (ab (w.alloc (OK ((ft B []).map ag).toArray 5)) h 5 ((ft B []).map ag).toArray):=O (aE (ab.new _ _ _) hh);clear hp hM fJ
 go_enter Tryz.func35,Tryz.ntmps35
 go_wp2_with fail
 (try rw[hh]);clear hh z0 Kt K9 Ku K6
 go_loopg [4] (U L) (λgk i=> λwr=>∃(j:Nat),j+gk=U L/\i=Y J (j:Int)/\Hid (Below w.heap.size w wr)/\Hid (ab wr h 5 ((ft B (L.take j)).map ag).toArray))
 case atStart=>exact⟨0,by omega,rfl,Hu,JT⟩
 case round=>
  obtain⟨j,hj,rfl,HB,HK⟩:=hrel;have dv:=O (HP.out.below HB.out);have z0:=dv.out.pn.cell 0;(try dsimp only at z0)
  cases gk with
  |zero=>
   have jY:j=(U L):=(by omega);have K5:¬((j:Int)<(U L:Int)):=by omega
   have HR:Hid (wr.ownsRow w.heap.size 5 1 (X (some ⟨h,0,none⟩) B B) B ((ft B L).map ag)):=O (by
    have hk:=HK.out;rw[jY,OG (OE _)] at hk;refine⟨by rw[OF,iv,OU],.inr ⟨h,B,_,rfl,by rw[HH.out];exact OE _,hk,OE _,?_,?_,?_⟩⟩
    ·have:=jg.out;have:=HL.out;show B<=9223372036854775807;omega
    ·rw[List.size_toArray,OF,iv,OU]
    ·rw[OU,OG (by rw[List.toList_toArray,OF,iv];exact OE _)])
   clear hj jY;go_wp2_with fail
   go_ret;exact⟨⟨_,B,rfl,HR.out⟩,HB.out⟩
  |succ gk=>
   have K5:((j:Int)<(U L:Int)):=(by omega);have N:j<(U L):=(by omega);have K4:=HL.out;obtain⟨b,hb⟩:∃b,L[j]=b:=⟨_,rfl⟩;obtain⟨r,hr⟩:∃r,j % 8=r:=⟨_,rfl⟩;obtain⟨k,hk⟩:∃k,j / 8=k:=⟨_,rfl⟩;have eE:k<B:=(by have:=jg.out;omega);obtain⟨q,hq⟩:∃q,dW (L.take j) k=q:=⟨_,rfl⟩;obtain⟨x,hx⟩:∃x,jt b=x:=⟨_,rfl⟩;obtain⟨y,hy⟩:∃y,x*2 ^ (7 - r)=y:=⟨_,rfl⟩;have Hl:x<2:=(by rw[<-hx];exact AO b);have kA:r<8:=(by omega);have T:q<256:=by rw[<-hq];exact wF _ _
   have iP:y<256:=by
    rw[<-hy];have h1:x=0\/x=1:=(by omega);have h2:r=0\/r=1\/r=2\/r=3\/r=4\/r=5\/r=6\/r=7:=(by omega);rcases h1 with rfl|rfl<;>rcases h2 with rfl|rfl|rfl|rfl|rfl|rfl|rfl|rfl<;>decide
   have av:tn b=Y J (x:Int):=by
    rw[<-hx];rcases HM.out b (by rw[<-hb];exact OL N) with rfl|rfl<;>rfl
   have G:(L.take j).length=j:=by rw[List.length_take];omega
   have kU:ft B (L.take (j+1))=(ft B (L.take j)).set k (UInt8.ofNat (q|||y)):=by
    rw[List.take_add_one,List.getElem?_eq_getElem N,hb];have h:=Cm B (L.take j) b (by rw[G,hk];exact eE);rw[G,hk,hr,hq,hx,hy] at h;exact h
   have I:=u8_or_nat q y T iP;have aJ:q|||y<256:=Nat.or_lt_two_pow (n:=8) T iP
   have dy:wr.cell? ⟨h,k,none⟩=some (Y .u8 (q:Int)):=by
    have h1:=HK.out.cell k;rw[h1,List.getElem?_toArray,List.getElem?_map,pD _ _ _ eE,hq];show some (ag (UInt8.ofNat q))=_;unfold ag;rw[fj _ T]
   have Ky:=HK.out.frozen k;obtain⟨ad,rfl,_,dO⟩:=(fG dv.out.row).at_ j (by rw[OF];exact N);rw[OP,hb,av] at dO
   have cI:Hid (ab (wr.setCell ⟨h,k,none⟩ (Y .u8 ((q|||y:Nat):Int))) h 5 ((ft B (L.take (j+1))).map ag).toArray):=O (by
    have h1:=HK.out.set_ k (Y .u8 ((q|||y:Nat):Int));rw[kU,List.map_set,<-Z];have h2:ag (UInt8.ofNat (q|||y))=Y .u8 ((q|||y:Nat):Int):=(by unfold ag;rw[fj _ aJ]);rw[h2];exact h1)
   have cE:=O (HB.out.setCell (p:=⟨h,k,none⟩) (by rw[HH.out];exact OE _) (Y .u8 ((q|||y:Nat):Int)));have HJ:=O hj;have bM:(j:Int).tmod 8=(r:Int):=(by rw[Int.tmod_eq_emod_of_nonneg (by omega)];omega);have Kx:(j:Int).tdiv 8=(k:Int):=(by rw[OO (by omega)];omega);have KC:OI.wrap (k:Int)=(k:Int):=(by rw[OD];omega);have KB:OI.wrap ((j:Int)+1)=(j:Int)+1:=(by rw[OD];omega);have M:Hid (ab wr.drew g 63 #[X (some ad) (U L) c]/\wr.drew.cell? ⟨h,k,none⟩=some (Y .u8 (q:Int))/\wr.drew.cell? (ad.add j)=some (Y J (x:Int))):=O ⟨dv.out.pn,dy,dO⟩;have KA:¬((k:Int)<0):=(by omega);have Kv:((k:Int)<(B:Int)):=(by omega);have Kw:(k:Int).toNat=k:=(by omega);have Kz:¬((j:Int)<0):=(by omega);have K0:=O kA;have K3:=O Hl;obtain⟨z,hz⟩:∃z,q|||y=z:=⟨_,rfl⟩;rw[hz] at I cI cE;clear hj N hb hr hk eE hq hx kA T iP Hl av G kU aJ dO K4 hz;have Ht:x=0\/x=1:=(by have:=K3.out;omega);have gj:r=0\/r=1\/r=2\/r=3\/r=4\/r=5\/r=6\/r=7:=by have:=K0.out;omega
   have rG:Og.wrap (Og.wrap (x:Int)*2 ^ min (IntKind.u64.wrap (OI.wrap (7 - (r:Int)))).toNat 8)=(y:Int):=by
    rw[<-hy];rcases Ht with rfl|rfl<;>rcases gj with rfl|rfl|rfl|rfl|rfl|rfl|rfl|rfl<;>decide
   rcases Ht with rfl|rfl
   ·rcases gj with rfl|rfl|rfl|rfl|rfl|rfl|rfl|rfl
    all_goals
     simp only[Nat.zero_mul,Ob,Oa] at hy
     subst hy
     have K:=I
     (try simp only[OT,OY] at K bM M rG⊢)
     clear I
     go_wp2_with fail
     refine aP (λw'=>ab w' g 63 #[X (some ad) (U L) c]/\w'.cell? ⟨h,k,none⟩=some (Y .u8 (q:Int))/\w'.cell? (ad.add j)=some (Y J 0)) 22 (V 0 (V 1 (V 2 (V 3 (V 4 (V 5 (V 6 (V 7 (V 8 (V 9 (V 10 (V 11 (V 12 (V 13 (V 14 (V 15 (V 16 (V 17 (V 18 (V 19 (V 20 (V 21 .done)))))))))))))))))))))) (M.out) (λPE D=>?_)
     iterate 22
      refine af (v:=?_) rfl (by rfl) ?_ ?_
      rotate_left
      ·intro _ C;(try dsimp only at C);have z0:=C.1.cell 0;have z1:=C.2.1;have z2:=C.2.2;(try dsimp only at z0 z1 z2);go_simp;(try with_reducible rfl)
      simp only[Z,OB,OA]
     refine D _ _ ?_
     clear D PE
     simp only[OJ,OW]
     go_wp2_with fail
     refine⟨rfl,?_⟩
     go_wp2_with fail
     go_roundg gk
     case measure=>omega
     case rel=>exact⟨j+1,by have:=HJ.out;omega,rfl,O cE.out.drew,O cI.out⟩
   ·rcases gj with rfl|rfl|rfl|rfl|rfl|rfl|rfl|rfl
    all_goals
     simp only[Nat.one_mul,Ob,Oa] at hy
     subst hy
     have K:=I
     (try simp only[OT,OY] at K bM M rG⊢)
     clear I
     go_wp2_with fail
     refine aP (λw'=>ab w' g 63 #[X (some ad) (U L) c]/\w'.cell? ⟨h,k,none⟩=some (Y .u8 (q:Int))/\w'.cell? (ad.add j)=some (Y J 1)) 22 (V 0 (V 1 (V 2 (V 3 (V 4 (V 5 (V 6 (V 7 (V 8 (V 9 (V 10 (V 11 (V 12 (V 13 (V 14 (V 15 (V 16 (V 17 (V 18 (V 19 (V 20 (V 21 .done)))))))))))))))))))))) (M.out) (λPE D=>?_)
     iterate 22
      refine af (v:=?_) rfl (by rfl) ?_ ?_
      rotate_left
      ·intro _ C;(try dsimp only at C);have z0:=C.1.cell 0;have z1:=C.2.1;have z2:=C.2.2;(try dsimp only at z0 z1 z2);go_simp;(try with_reducible rfl)
      simp only[Z,OB,OA]
     refine D _ _ ?_
     clear D PE
     simp only[OJ,OW]
     go_wp2_with fail
     refine⟨rfl,?_⟩
     go_wp2_with fail
     go_roundg gk
     case measure=>omega
     case rel=>exact⟨j+1,by have:=HJ.out;omega,rfl,O cE.out.drew,O cI.out⟩
theorem Ip (w:World):oM w w.heap.size (X none 0 0) [] (w.alloc (OK #[X none 0 0] 63)):=⟨(Below.refl _ _).alloc (OE _) _,ab.new _ _ _,OE _,World.ownsRow_nil _ _ _ _⟩
theorem vP (D:List a8)(A:Option Addr)(n c:Nat)(w:World)(C:U D=n)(j:100<n):Calls OM 13 #[X A n c] w (lL D w):=by
 have B:decide ((100:Int)<(n:Int))=true:=by simp;omega
 have I:=O C;have G:=O j;clear C j
 go_enter Oe,Od
 go_wp2_with fail
 go_ret2;exact⟨_,_,rfl,Below.refl _ _,.inr (.inr ⟨rfl,by rw[I.out];exact G.out,rfl⟩)⟩
theorem EI (G:List a8)(A:Option Addr)(n c:Nat)(w:World)(hn:U G=n)(jY:eV w A G)(hS:∀s∈G,eF s) (h4:n<=4):
  Calls OM 13 #[X A n c] w (lL G w):=by
 have K0:decide ((100:Int)<(n:Int))=false:=by simp;omega
 have hl:∀j,(∀s∈G.take j,cN s.s=true)->(ca ((G.take j).map (·.s))).length<=16777216:=tI (by omega);have HN:=O hn;have HH:=O h4;have cE:=O jY;have HS:=O hS;have HL:=O hl;have Hl:=O (Ip w);clear hn jY hS hl h4
 go_enter Oe,Od
 go_wp2_with fail
 go_loopg [5] n (λgk i=> λwr=>∃(j:Nat)(v:Value),j+gk=n/\i=Y J (j:Int)/\Hid (oM w w.heap.size v (ca ((G.take j).map (·.s))) wr)/\Hid (∀s∈G.take j,cN s.s=true))
 case atStart=>exact⟨0,_,by omega,rfl,Hl,O (λs hs=>by rw[OS] at hs;cases hs)⟩
 case round=>
  obtain⟨j,v,hj,rfl,T,HQ⟩:=hrel
  cases gk with
  |zero=>
   have JT:¬((j:Int)<(n:Int)):=(by omega);have K:G.take j=G:=OG (by rw[HN.out];omega);have hb:=HL.out j HQ.out;rw[K] at T HQ hb;have CB:=O (zE w w.heap.size v _ wr T.out (λc hc=>nP _ c hc) hb);clear hj K hb;go_wp2_with (go_at_call 35;refine CB.out.mono ?_;rintro e w3 ⟨⟨A',c',rfl,ho⟩,C⟩;have HO:=O ho;have cI:=O C;clear ho C)
   go_ret2;refine⟨_,_,rfl,T.out.be.trans (cI.out.mono T.out.be.size),.inl ⟨rfl,by rw[HN.out];have:=HH.out;omega,HQ.out,A',c',rfl,cJ HO.out T.out.be.size⟩⟩
  |succ go=>
   have JT:((j:Int)<(n:Int)):=(by omega);have K3:¬((j:Int)<0):=(by omega);have av:j<(U G):=(by rw[HN.out];omega);have K4:OI.wrap ((j:Int)+1)=(j:Int)+1:=(by have:=HH.out;rw[OD];omega);obtain⟨ad,rfl,_,c0,c1,c2,c3⟩:=iC (cE.out.row.below T.out.be) j av;have eE:=O (λW (hb:Below w.heap.size w W)=>iC (cE.out.row.below hb) j av);have D:=OL av;have K:=jn G j av;obtain⟨S,jg⟩:∃S,G[j]=S:=⟨_,rfl⟩;rw[jg] at D K c0 c1 c2 c3 eE;have dy:=cE.out.sh _ D;have dO:=HS.out _ D;have CK:=O (λW (hb:Below w.heap.size w W)=>qT S W (dy.below hb) dO);have CB:=O (λW (B:cN S.s=true) (hb:Below w.heap.size w W)=>Db S W (dy.below hb) dO B);have CW:=O (λ(L M:List UInt8) W (hM:cU M) (hl:U L+U M<=16777216) (hp:oM w w.heap.size v L W)=>CL w w.heap.size v L M W hp (λc hc=>hM c hc) hl)
   have I:cN S.s=true->(∀s∈G.take (j+1),cN s.s=true):= λB s hs=>by
    rw[K] at hs;rcases List.mem_append.1 hs with hs|hs
    ·exact HQ.out s hs
    ·rw[List.mem_singleton] at hs;subst hs;exact B
   have aJ:ca ((G.take (j+1)).map (·.s))=ca ((G.take j).map (·.s))++eN S.s:=by
    rw[K,List.map_append,oD,List.map_singleton,ca,ca,ON]
   have bM:cN S.s=true->(ca ((G.take j).map (·.s))).length+(eN S.s).length<=16777216:= λB=>by
    have:=HL.out (j+1) (I B);rw[aJ,OC] at this;exact this
   have rG:=O I;have iP:=O aJ;have fJ:=O bM;have HJ:=O hj;have gj:=O D;unfold fY at CK CB;clear D K jg dy dO I aJ bM hj av
   cases B:cN S.s with
   |false=>
    rw[B] at CK;simp only[Bool.false_eq_true,if_false] at CK;have N:=O B;clear B;go_wp2_with (go_at_call 16;refine(CK.out _ T.out.be).mono ?_;rintro e w3 ⟨rfl,C⟩;have cI:=O C;clear C)
    go_ret2;exact⟨_,_,rfl,T.out.be.trans (cI.out.mono T.out.be.size),.inr (.inl ⟨rfl,by rw[HN.out];have:=HH.out;omega,⟨S,gj.out,N.out⟩,rfl⟩)⟩
   |true=>
    rw[B] at CK;simp only[if_true] at CK;have N:=O B;clear B;go_wp2_with (first|(go_at_call 16;refine(CK.out _ T.out.be).mono ?_;rintro e w3 ⟨rfl,C⟩;have dv:=O (T.out.below C);obtain⟨_,e,_,d0,d1,d2,d3⟩:=eE.out _ dv.out.be;cases e;clear C)|(go_at_call 34;refine(CB.out _ N.out dv.out.be).mono ?_;rintro e w4 ⟨rfl,kA⟩;have Ht:=O (dv.out.below kA);clear kA)|(go_at_call 33;refine(CW.out _ _ _ (ud _) (fJ.out N.out) Ht.out).mono ?_;rintro e w5 ⟨rfl,v5,kU⟩;have Hu:=O kU;clear kU))
    go_roundg go
    case measure=>omega
    case rel=>exact⟨j+1,v5,by have:=HJ.out;omega,rfl,O (by rw[iP.out];exact Hu.out),O (rG.out N.out)⟩
theorem Dd (j:List a8)(A:Option Addr)(n c:Nat)(w:World)(D:U j=n)(C:eV w A j)(B:Fd n j):Calls OM 13 #[X A n c] w (rb j w):=by
 rcases B with⟨I,B⟩|G
 ·exact(EI j A n c w D C B I).mono λe w' h=>h.q
 ·exact(vP j A n c w D G).mono λe w' h=>h.q
end Go.Proofs.YthhijgcfbjcgiaaGreatDoor

/- Good, RFrm, Ref12b, Ref12c, Ref19, Ref19c -/
import Derived.Test.YthhijgcfbjcgiaaGreatDoorQ35
import Derived.Test.YthhijgcfbjcgiaaGreatDoorQ41
namespace Go.Proofs.YthhijgcfbjcgiaaGreatDoor
open Go Go.RowKit
attribute [local go_sem] Oper.semAt_some
set_option maxHeartbeats 16000000
set_option maxRecDepth 100000
open Go.Lib renaming hid→O
open Go.IntKind renaming i64→U,wrap_i64→Y,i64→X
open Go.Value renaming int→Z,slice→OA,bool→OB,tuple→Ob,agg→Oj
open List renaming length→V,length_append→ON
open Nat renaming le_refl→J,le_succ→OI
open Bool renaming false_and→OC,true_and→OG,false_ne_true→OM,and_false→OO,and_eq_true→OV,eq_iff_iff→OW,false_eq_true→OX
open Go.Obj renaming cells→OD
open Go.World renaming ownsRow_nil→OE,size_alloc→Oa
open Tryz renaming results195→OF,ntmps116→OH,func116→OJ,prog→OK,ntmps195→OP,func195→OQ,ntmps82→OR,func82→OS,ntmps44→OY,func44→OZ,results72→Oc,ntmps136→Od,func136→Oe,ntmps39→Of,ntmps42→Og,func39→Oh,func42→Oi
open Go.Ending renaming returned→OL
open Int renaming tdiv_eq_ediv_of_nonneg→OT,tmod_eq_emod_of_nonneg→OU
def qs (f:Int) (p:cJ):Bool:=iX p.qu (V p.sp)&&fC f p.num 0 (p.ms.map (·.m))
theorem Ei (f n:Int)(p:cJ):kU f n p.g=(p.num==n&&qs f p):=by
 unfold kU qs iX cJ.g;dsimp only;rw[OW];simp only[OV,decide_eq_true_eq,beq_iff_eq];constructor
 ·rintro⟨⟨⟨⟨rfl,a⟩,b⟩,c⟩,d⟩
  exact⟨rfl,⟨⟨a,b⟩,c⟩,d⟩
 ·rintro⟨rfl,⟨⟨a,b⟩,c⟩,d⟩
  exact⟨⟨⟨⟨rfl,a⟩,b⟩,c⟩,d⟩
theorem Ab (f:Int)(p:cJ)(w:World)(hf:f=0\/f=1)(hn:p.num∈aJ f)(hg:mE w p)(hs:wL p):
  Calls OK 39 #[Z U f,po p] w λe w'=>e=OL (OB (qs f p))/\Below w.heap.size w w':=by
 obtain⟨num,qu,sp,sA,sc,ms,A,c⟩:=p;obtain⟨K2,dD,K0⟩:=hg;obtain⟨KE,KF,K1⟩:=hs;dsimp only at K2 dD K0 KE KF K1 hn;unfold qs po;dsimp only;have K9:=O dD;have KH:=O K0;have KL:=O K1;have K3:=O (And.intro hf hn);obtain⟨wj,aB⟩:∃b,(iX qu (V sp)&&fC f num 0 (ms.map (·.m)))=b:=⟨_,rfl⟩;rw[aB];have C1:=O (λW (h:Below w.heap.size w W)=>uS qu sp sA (V sp) sc W (K2.below h) rfl);obtain⟨k,hk⟩:∃k,V sp=k:=⟨_,rfl⟩;obtain⟨L,hL⟩:∃L,V ms=L:=⟨_,rfl⟩;rw[hk] at C1 aB;rw[hk,hL];have hU:=O aB;have HL:=O hL;rw[hL] at KF;have Io:Below w.heap.size w (w.alloc (OD #[Z U num,Z U qu,OA sA k sc,OA A L c] 51)):=(Below.refl _ _).alloc (J _) _;have Kr:=ab.new w 51 #[Z U num,Z U qu,OA sA k sc,OA A L c];have ja:=O Io;have kz:=O Kr;have I:=O (C1.out _ Io);generalize aD qu.toNat 5++fu sp=KR at I;clear K2 dD K0 KE K1 hn hf aB hk hL Io Kr C1
 cases bE:iX qu k with
 |false=>
  have D:=hU.out;rw[bE,OC] at D;subst D;rw[bE] at I;simp only[OX,if_false] at I;clear bE
  go_enter Oh,Of
  go_wp2_with (go_at_call 75;refine I.out.mono ?_;rintro e w2 ⟨rfl,rfl⟩)
  go_ret;exact⟨rfl,ja.out⟩
 |true=>
  rw[bE] at I;simp only[if_true] at I;have KJ:Hid (fC f num 0 (ms.map (·.m))=wj):=O (by rw[<-hU.out,bE,OG]);clear bE;obtain⟨gg,eE⟩:∃gg,w.heap.size=gg:=⟨_,rfl⟩;have KN:=O eE;rw[eE] at kz
  go_enter Oh,Of
  go_wp2_with (go_at_call 75;refine I.out.mono ?_;rintro e w2 ⟨rfl,rfl⟩)
  (try rw[eE]);generalize w.alloc (OD #[Z U num,Z U qu,OA sA k sc,OA A L c] 51)=W1 at ja kz⊢;clear eE I
  go_loopg [7,23] L (λgk la i=> λwr=>∃(j:Nat)(last:Int),j+gk=L/\i=Z U (j:Int)/\la=Z U last/\Hid (fC f num last ((ms.drop j).map (·.m))=wj)/\Hid (Below w.heap.size w wr)/\Hid (ab wr gg 51 #[Z U num,Z U qu,OA sA k sc,OA A L c]))
  case atStart=>exact⟨0,0,by omega,rfl,rfl,KJ,ja,kz⟩
  case round=>
   obtain⟨j,last,hj,rfl,rfl,HJ,HB,HG⟩:=hrel
   cases gk with
   |zero=>
    have KM:¬((j:Int)<(L:Int)):=(by omega);have D:=HJ.out;rw[List.drop_of_length_le (by have:=HL.out;omega)] at D;have D:true=wj:=D;subst D;clear hj;go_wp2_with fail
    go_ret;exact⟨rfl,HB.out⟩
   |succ gk=>
    have KM:((j:Int)<(L:Int)):=(by omega);have KO:¬((j:Int)<0):=(by omega);have fW:j<(V ms):=(by rw[HL.out];omega);obtain⟨ad,rfl,_,c0,c1,c2,c3,c4,c5,c6⟩:=nM (K9.out.below HB.out) j fW;have T:=List.getElem_mem fW;have Iq:ms.drop j=ms[j]::ms.drop (j+1):=List.drop_eq_getElem_cons fW;obtain⟨⟨m,xs,Am,cm⟩,hm⟩:∃m,ms[j]=m:=⟨_,rfl⟩;rw[hm] at T Iq c0 c1 c2 c3 c4 c5 c6;dsimp only at c0 c1 c2 c3 c4 c5 c6;have gJ:=HJ.out;rw[Iq,List.map_cons,fC] at gJ;dsimp only at gJ;have Ip:=(KH.out _ T).below HB.out;have dY:=(Below.refl _ wr).alloc (J _) (OD #[Z U m.ad,Z U m.kd,Z U m.qu,Z U m.x,Z U m.y,Z U m.pa,OA Am (V xs) cm] 55);have CK:=O (qR m xs Am cm _ Ip.e ((Ip.below dY).bks (KL.out _ T)));have rX:=O (ab.new wr 55 #[Z U m.ad,Z U m.kd,Z U m.qu,Z U m.x,Z U m.y,Z U m.pa,OA Am (V xs) cm]);have K:=O (HB.out.trans (dY.mono HB.out.size));have dE:=O (HG.out.below dY HG.out.lt);have KQ:X.wrap ((j:Int)+1)=(j:Int)+1:=(by rw[Y];omega);have K8:=O gJ;have KG:=O hj;unfold fI at CK;clear T Iq hm gJ Ip dY hj fW HJ HB HG
    cases M:lk m with
    |false=>
     have D:=K8.out;rw[M] at D;simp only[OC] at D;subst D;rw[M] at CK;simp only[OX,if_false] at CK;clear M;go_wp2_with (go_at_call 76;refine CK.out.mono ?_;rintro e w3 ⟨rfl,C⟩;have G:=O (K.out.trans (C.mono K.out.size));clear C)
     go_ret;exact⟨rfl,G.out⟩
    |true=>
     rw[M] at CK;simp only[if_true] at CK;have dt:=(jY m).1 M;have D:=K8.out;rw[M,OG] at D;have CF:=O (λW=>rc m Am (V xs) cm f num dt K3.out.1 K3.out.2 W);unfold fI at CF
     by_cases gy:last<m.ad
     ·have J2:¬(m.ad<=last):=by omega
      have KC:decide (m.ad<=last)=false:=(by simpa using J2);rw[decide_eq_true gy,OG] at D;have K6:=O D;clear M dt gy D
      cases aC:iM f num m with
      |false=>
       have D:=K6.out;rw[aC,OC] at D;subst D;rw[aC] at CF;clear aC;go_wp2_with (first|(go_at_call 76;refine CK.out.mono ?_;rintro e w3 ⟨rfl,C⟩;have G:=O (K.out.trans (C.mono K.out.size));have B:=rX.out.below C (by simp);have z0:=B.cell 0;have z1:=B.cell 1;have z2:=B.cell 2;have z3:=B.cell 3;have z4:=B.cell 4;have z5:=B.cell 5;have z6:=B.cell 6;have cz:=dE.out.below C dE.out.lt;have q0:=cz.cell 0;(try dsimp only at z0 z1 z2 z3 z4 z5 z6 q0);clear C B cz)|(go_at_call 77;refine(CF.out _).mono ?_;rintro e w4 ⟨rfl,N⟩;have jT:=O (G.out.trans (N.mono G.out.size));clear N))
       go_ret;exact⟨rfl,jT.out⟩
      |true=>
       have D:=K6.out;rw[aC,OG] at D;have KK:=O D;rw[aC] at CF;clear aC D;go_wp2_with (first|(go_at_call 76;refine CK.out.mono ?_;rintro e w3 ⟨rfl,C⟩;have G:=O (K.out.trans (C.mono K.out.size));have B:=rX.out.below C (by simp);have K4:=O B;have z0:=B.cell 0;have z1:=B.cell 1;have z2:=B.cell 2;have z3:=B.cell 3;have z4:=B.cell 4;have z5:=B.cell 5;have z6:=B.cell 6;have cz:=dE.out.below C dE.out.lt;have K5:=O cz;have q0:=cz.cell 0;(try dsimp only at z0 z1 z2 z3 z4 z5 z6 q0);clear C B cz)|(go_at_call 77;refine(CF.out _).mono ?_;rintro e w4 ⟨rfl,N⟩;have jT:=O (G.out.trans (N.mono G.out.size));have y0:=(K4.out.below N K4.out.lt).cell 0;have KI:=O (K5.out.below N K5.out.lt);(try dsimp only at y0);clear N))
       go_roundg gk
       case measure=>omega
       case rel=>exact⟨j+1,m.ad,by have:=KG.out;omega,rfl,rfl,KK,jT,KI⟩
     ·have J2:m.ad<=last:=by omega
      have KC:decide (m.ad<=last)=true:=(by simpa using J2);rw[decide_eq_false gy] at D;simp only[OC] at D;subst D;clear M dt gy;go_wp2_with (go_at_call 76;refine CK.out.mono ?_;rintro e w3 ⟨rfl,C⟩;have G:=O (K.out.trans (C.mono K.out.size));have B:=rX.out.below C (by simp);have z0:=B.cell 0;(try dsimp only at z0);clear C B)
      go_ret;exact⟨rfl,G.out⟩
theorem Dm (f:Int)(j:f=0\/f=1)(w:World):Calls OK 138 #[Z U f] w λe w'=>e=OL (Ob #[Z U (jI f),Z U (jA f),Z U (jI f*jA f*3 / 2),Z U 0])/\w=w':=by
 rcases j with rfl|rfl
 all_goals
  go_enter Tryz.func138,Tryz.ntmps138
  go_wp2_with fail
  refine bodyPost_ret (by simp[results,Tryz.results138,go_sem];exact⟨by kernel_rfl,by kernel_rfl,by kernel_rfl⟩) rfl ⟨rfl,rfl⟩
theorem Bq (w:World)(e:TypeId)(xs:List Value)(j:V xs<=maxLen):(w.alloc (OD xs.toArray e)).ownsRow w.heap.size e 1 (OA (some ⟨w.heap.size,0,none⟩) (V xs) (V xs)) (V xs) xs:=
 ⟨by simp,.inr ⟨w.heap.size,V xs,xs.toArray,rfl,J _,ab.new _ _ _,J _,j,by simp,by simp⟩⟩
def tI (f:Int) (w:World) (e:Ending) (w':World):Prop:=∃A c,e=OL (Ob #[OA A (aJ f).length c,Z U 0])/\w'.ownsRow w.heap.size 3 1 (OA A (aJ f).length c) (aJ f).length ((aJ f).map aE)/\Below w.heap.size w w'
theorem pU (f:Int)(j:f=0\/f=1)(w:World):Calls OK 42 #[Z U f] w (tI f w):=by
 rcases j with rfl|rfl
 ·skip
  go_enter Oi,Og
  go_wp2_with fail
  go_ret2;exact⟨_,_,rfl,Bq w 3 ((aJ 0).map aE) (by decide),(Below.refl _ _).alloc (J _) _⟩
 ·skip
  go_enter Oi,Og
  go_wp2_with fail
  go_ret2;exact⟨_,_,rfl,Bq w 3 ((aJ 1).map aE) (by decide),(Below.refl _ _).alloc (J _) _⟩
theorem Dl (f g:Int)(hf:f=0\/f=1)(hg:g∈aJ f)(w:World):Calls OK 182 #[Z U f,Z U g] w λe w'=>(∃k:Int,e=OL (Ob #[Z U k,Z U 0]))/\Below w.heap.size w w':=by
 have C:=O (pU f hf w);have M:Hid ((aJ f).length<=12):=O (iw f);have fW:(g==0)=false:=by have:=jz hg;simp;omega
 have HG:=O hg;unfold tI at C;obtain⟨l,hl⟩:∃l,aJ f=l:=⟨_,rfl⟩;rw[hl] at C M HG;obtain⟨n,hn⟩:∃n,V l=n:=⟨_,rfl⟩;rw[hn] at C M;have N:=O hn;clear hg hf hl hn
 go_enter Tryz.func182,Tryz.ntmps182
 go_wp2_with (go_at_call 42;refine C.out.mono ?_;rintro e w2 ⟨A,c,rfl,hs,hb⟩;have HA:=O (fM hs);have HB:=O hb;clear hs hb)
 go_loopg [8] n (λgk i=> λwr=>∃(j:Nat),j+gk=n/\i=Z U (j:Int)/\wr=w2/\Hid (∀k (h:k<V l),k<j->l[k]≠g))
 case atStart=>exact⟨0,by omega,rfl,rfl,O (λk h h2=>by omega)⟩
 case round=>
  obtain⟨j,I,rfl,rfl,HJ⟩:=hrel
  cases gk with
  |zero=>
   obtain⟨k,hk,dD⟩:=List.getElem_of_mem HG.out;exact absurd dD (HJ.out k hk (by have:=N.out;omega))
  |succ gk=>
   have eE:=M.out;have gy:((j:Int)<(n:Int)):=(by omega);have dt:j<(V l):=(by rw[N.out];omega);obtain⟨ad,hA,_,hc⟩:=HA.out.int j dt;subst hA;obtain⟨y,hy⟩:∃y,l[j]=y:=⟨_,rfl⟩;rw[hy] at hc;have dE:X.wrap ((j:Int)+1)=(j:Int)+1:=(by rw[Y];omega);have gJ:X.wrap ((n:Int) - 1)=(n:Int) - 1:=(by rw[Y];omega);have HY:=O hy;have K:=O I
   cases he:(y==g) with
   |true=>
    by_cases B:j+1=n
    ·have hq:((j:Int)==(n:Int) - 1)=true:=by simp;omega
     clear I B;go_wp2_with fail
     go_ret2;exact⟨⟨_,rfl⟩,HB.out⟩
    ·have hq:((j:Int)==(n:Int) - 1)=false:=by simp;omega
     obtain⟨G,cz⟩:∃G,j+1=G:=⟨_,rfl⟩;have D:G<(V l):=(by rw[N.out];omega);obtain⟨aB,aC,_,bE⟩:=HA.out.int G D;obtain rfl:ad=aB:=by simpa using aC
     obtain⟨z,hz⟩:∃z,l[G]=z:=⟨_,rfl⟩;rw[hz] at bE;have dY:((G:Int)<(n:Int)):=(by omega);have hU:X.wrap ((j:Int)+1)=(G:Int):=(by rw[Y];omega);clear hz I B dE cz D;go_wp2_with fail
     go_ret2;exact⟨⟨_,rfl⟩,HB.out⟩
   |false=>
    have T:Hid (y≠g):=O (λe=>by subst e;simp at he);clear I;go_wp2_with fail
    go_roundg gk
    case measure=>omega
    case rel=>
     refine⟨j+1,by have:=K.out;omega,rfl,rfl,O λk h hk=>?_⟩;rcases Nat.lt_or_ge k j with h1|h1
     ·exact HJ.out k h h1
     ·obtain rfl:k=j:=by omega
      rw[HY.out];exact T.out
theorem yp (f g a:Int)(hf:f=0\/f=1)(N:g∈aJ f)(ha:1<=a/\a<=33)(w:World):Calls OK 136 #[Z U f,Z U g,Z U a] w λe w'=>e=OL (Ob #[Z U (gq f g a),Z U (gr g a),Z U 0])/\Below w.heap.size w w':=by
 have C:=O (Dl f g hf N w);obtain⟨T,aB⟩:=jz N;obtain⟨K,M⟩:=ha;have k0:(g==0)=false:=by simp;omega
 have k1:decide (a<1)=false:=by simp;omega
 have k2:decide (33<a)=false:=by simp;omega
 have w1:X.wrap (a - 1)=a - 1:=by rw[Y];omega
 have w2:X.wrap (g - 1)=g - 1:=by rw[Y];omega
 have t1:(a - 1).tmod 11=(a - 1) % 11:=OU (by omega);have t2:(a - 1).tdiv 11=(a - 1) / 11:=OT (by omega);have t3:(g - 1).tmod 2=(g - 1) % 2:=OU (by omega);have t4:(g - 1).tdiv 2=(g - 1) / 2:=OT (by omega);have b1:0<=(a - 1) % 11/\(a - 1) % 11<11:=by omega
 have b2:0<=(a - 1) / 11/\(a - 1) / 11<3:=by omega
 have b3:0<=(g - 1) % 2/\(g - 1) % 2<2:=by omega
 have b4:0<=(g - 1) / 2/\(g - 1) / 2<6:=by omega
 unfold gq gr;generalize (a - 1) % 11=D at*;generalize (a - 1) / 11=j at*;generalize (g - 1) % 2=G at*;generalize (g - 1) / 2=r4 at*;have v1:X.wrap j=j:=by rw[Y];omega
 have v2:X.wrap r4=r4:=by rw[Y];omega
 have v3:X.wrap (D*16)=D*16:=by rw[Y];omega
 have v4:X.wrap (j*16)=j*16:=by rw[Y];omega
 have v5:X.wrap (G*176)=G*176:=by rw[Y];omega
 have v6:X.wrap (r4*48)=r4*48:=by rw[Y];omega
 have v7:X.wrap (D*16+G*176)=D*16+G*176:=by rw[Y];omega
 have v8:X.wrap (j*16+r4*48)=j*16+r4*48:=by rw[Y];omega
 clear b1 b2 b3 b4 T aB K M N;rcases hf with rfl|rfl
 ·skip
  go_enter Oe,Od
  go_wp2_with (go_at_call 182;refine C.out.mono ?_;rintro e w3 ⟨⟨k,rfl⟩,B⟩;have I:=O B;clear B)
  go_ret3;exact⟨by simp,I.out⟩
 ·skip
  go_enter Oe,Od
  go_wp2_with (go_at_call 182;refine C.out.mono ?_;rintro e w3 ⟨⟨k,rfl⟩,B⟩;have I:=O B;clear B)
  go_ret3;exact⟨by simp,I.out⟩
theorem sW (n:Int)(j: -15<=n/\n<=15)(w:World):Calls OK 137 #[Z U n] w λe w'=>e=OL (OB true)/\w=w':=by
 obtain⟨B,h2⟩:=j;have C:decide (-15<=n)=true:=by simp;omega
 have D:decide (n<=15)=true:=by simp;omega
 go_enter Tryz.func137,Tryz.ntmps137
 go_wp2_with fail
 go_ret;exact⟨rfl,rfl⟩
theorem Dn (f g a x y:Int)(hf:f=0\/f=1)(hg:g∈aJ f)(ha:1<=a/\a<=33)(hx: -15<=x/\x<=15)(hy: -15<=y/\y<=15)(w:World):
  Calls OK 82 #[Oj #[Z U f,Z U g,Z U a],Z U x,Z U y] w λe w'=>e=OL (Z U (if pu f g a x y then 0 else 12))/\Below w.heap.size w w':=by
 have aB:=su hf (jz hg) ha;have C:=O (λW=>yp f g a hf hg ha W);have D:=O (λW=>Dm f hf W);have PX:=O (λW=>sW x hx W);have PY:=O (λW=>sW y hy W);generalize jI f*jA f*3 / 2=sz at*;unfold pu;generalize gq f g a=p at*;generalize gr g a=q at*;generalize jI f=wd at*;generalize jA f=hi at*;obtain⟨c1,c2,c3,c4⟩:=aB;obtain⟨x1,x2⟩:=hx;obtain⟨y1,y2⟩:=hy;have v1:X.wrap (p+x)=p+x:=by rw[Y];omega
 have v2:X.wrap (q+y)=q+y:=by rw[Y];omega
 have v3:X.wrap (p+x+16)=p+x+16:=by rw[Y];omega
 have v4:X.wrap (q+y+16)=q+y+16:=by rw[Y];omega
 have j:=O ((Below.refl _ w).alloc (J _) (OD #[Z U f,Z U g,Z U a] 118));have B:=O (ab.new w 118 #[Z U f,Z U g,Z U a])
 have T:(decide (0<=p+x)&&decide (p+x+16<=wd)&&decide (0<=q+y)&&decide (q+y+16<=hi))= !(decide (p+x<0)||decide (wd<p+x+16)||decide (q+y<0)||decide (hi<q+y+16)):=by
  rw[OW];simp only[OV,decide_eq_true_eq,Bool.not_eq_true',Bool.or_eq_false_iff,decide_eq_false_iff_not];omega
 rw[T];clear T hf hg ha c1 c2 c3 c4 x1 x2 y1 y2
 cases k1:decide (p+x<0) with
 |true=>
  go_enter OS,OR
  go_wp2_with (first|(go_at_call 136;refine(C.out _).mono ?_;rintro e w2 ⟨rfl,I⟩;have G:=O (j.out.trans (I.mono j.out.size));have K:=B.out.below I B.out.lt;have N:=K.cell 0;(try dsimp only at N);clear K I)|(go_at_call 138;refine(D.out _).mono ?_;rintro e M ⟨rfl,rfl⟩)|(go_at_call 137;refine(PX.out _).mono ?_;rintro e M ⟨rfl,rfl⟩)|(go_at_call 137;refine(PY.out _).mono ?_;rintro e M ⟨rfl,rfl⟩))
  go_ret;exact⟨rfl,G.out⟩
 |false=>
  cases k2:decide (wd<p+x+16) with
  |true=>
   go_enter OS,OR
   go_wp2_with (first|(go_at_call 136;refine(C.out _).mono ?_;rintro e w2 ⟨rfl,I⟩;have G:=O (j.out.trans (I.mono j.out.size));have K:=B.out.below I B.out.lt;have N:=K.cell 0;(try dsimp only at N);clear K I)|(go_at_call 138;refine(D.out _).mono ?_;rintro e M ⟨rfl,rfl⟩)|(go_at_call 137;refine(PX.out _).mono ?_;rintro e M ⟨rfl,rfl⟩)|(go_at_call 137;refine(PY.out _).mono ?_;rintro e M ⟨rfl,rfl⟩))
   go_ret;exact⟨rfl,G.out⟩
  |false=>
   cases k3:decide (q+y<0) with
   |true=>
    go_enter OS,OR
    go_wp2_with (first|(go_at_call 136;refine(C.out _).mono ?_;rintro e w2 ⟨rfl,I⟩;have G:=O (j.out.trans (I.mono j.out.size));have K:=B.out.below I B.out.lt;have N:=K.cell 0;(try dsimp only at N);clear K I)|(go_at_call 138;refine(D.out _).mono ?_;rintro e M ⟨rfl,rfl⟩)|(go_at_call 137;refine(PX.out _).mono ?_;rintro e M ⟨rfl,rfl⟩)|(go_at_call 137;refine(PY.out _).mono ?_;rintro e M ⟨rfl,rfl⟩))
    go_ret;exact⟨rfl,G.out⟩
   |false=>
    cases k4:decide (hi<q+y+16) with
    |true=>
     go_enter OS,OR
     go_wp2_with (first|(go_at_call 136;refine(C.out _).mono ?_;rintro e w2 ⟨rfl,I⟩;have G:=O (j.out.trans (I.mono j.out.size));have K:=B.out.below I B.out.lt;have N:=K.cell 0;(try dsimp only at N);clear K I)|(go_at_call 138;refine(D.out _).mono ?_;rintro e M ⟨rfl,rfl⟩)|(go_at_call 137;refine(PX.out _).mono ?_;rintro e M ⟨rfl,rfl⟩)|(go_at_call 137;refine(PY.out _).mono ?_;rintro e M ⟨rfl,rfl⟩))
     go_ret;exact⟨rfl,G.out⟩
    |false=>
     go_enter OS,OR
     go_wp2_with (first|(go_at_call 136;refine(C.out _).mono ?_;rintro e w2 ⟨rfl,I⟩;have G:=O (j.out.trans (I.mono j.out.size));have K:=B.out.below I B.out.lt;have N:=K.cell 0;(try dsimp only at N);clear K I)|(go_at_call 138;refine(D.out _).mono ?_;rintro e M ⟨rfl,rfl⟩)|(go_at_call 137;refine(PX.out _).mono ?_;rintro e M ⟨rfl,rfl⟩)|(go_at_call 137;refine(PY.out _).mono ?_;rintro e M ⟨rfl,rfl⟩))
     go_ret;exact⟨rfl,G.out⟩
theorem Dq (m:aT)(A:Option Addr)(n c:Nat)(f g:Int)(T:AL m)(hf:f=0\/f=1)(hg:g∈aJ f)(w:World):
  Calls OK 44 #[Z U f,Z U g,fI m A n c] w λe w'=>e=OL (OB (iM f g m))/\Below w.heap.size w w':=by
 have C:=O (λW=>rM m.kd W);unfold nt ui at C;have hx:=T.px;have hy:=T.py;simp only[aK,OV,decide_eq_true_eq] at hx hy;have D:=O (λW=>Dn f g m.ad m.x m.y hf hg ⟨T.a1,T.a2⟩ (by omega) (by omega) W);obtain⟨ad,kd,qu,x,y,pa,bl⟩:=m;unfold iM fI;dsimp only at C D⊢;have I:=O ((Below.refl _ w).alloc (J _) (OD #[Z U ad,Z U kd,Z U qu,Z U x,Z U y,Z U pa,OA A n c] 55));have K:=O (ab.new w 55 #[Z U ad,Z U kd,Z U qu,Z U x,Z U y,Z U pa,OA A n c]);generalize pI kd=bI at*;generalize pQ kd=bQ at*;generalize pV kd=bV at*;generalize pF kd=bF at*;generalize pC kd=bC at*;generalize pu f g ad x y=b1 at*;generalize (if f9 kd then(0:Int) else 18)=er at*;clear T hx hy hf hg;have N:Hid (∀W,Calls OK 78 #[Z U kd] W λe w'=>e=OL (Ob #[Oj #[OB bI,OB bQ,OB bV,OB bF,OB bC],Z U er])/\Below W.heap.size W w'):=O (λW=>C.out W);clear C
 cases bV with
 |false=>
  go_enter OZ,OY
  go_wp2_with (go_at_call 78;refine(N.out _).mono ?_;rintro e w2 ⟨rfl,B⟩;have j:=O (I.out.trans (B.mono I.out.size));have G:=(K.out.below B K.out.lt).alloc (OD #[OB bI,OB bQ,OB false,OB bF,OB bC] 110);have z0:=G.cell 0;have z3:=G.cell 3;have z4:=G.cell 4;(try dsimp only at z0 z3 z4);clear G B)
  go_ret;exact⟨rfl,j.out.alloc j.out.size _⟩
 |true=>
  cases b1 with
  |false=>
   go_enter OZ,OY
   go_wp2_with (first|(go_at_call 78;refine(N.out _).mono ?_;rintro e w2 ⟨rfl,B⟩;have j:=O (I.out.trans (B.mono I.out.size));have G:=(K.out.below B K.out.lt).alloc (OD #[OB bI,OB bQ,OB true,OB bF,OB bC] 110);have z0:=G.cell 0;have z3:=G.cell 3;have z4:=G.cell 4;(try dsimp only at z0 z3 z4);clear G B)|(go_at_call 82;refine(D.out _).mono ?_;rintro e w3 ⟨rfl,B⟩;have M:=O ((j.out.alloc j.out.size _).trans (B.mono (j.out.alloc j.out.size _).size));clear B))
   go_ret;exact⟨rfl,M.out⟩
  |true=>
   go_enter OZ,OY
   go_wp2_with (first|(go_at_call 78;refine(N.out _).mono ?_;rintro e w2 ⟨rfl,B⟩;have j:=O (I.out.trans (B.mono I.out.size));have G:=(K.out.below B K.out.lt).alloc (OD #[OB bI,OB bQ,OB true,OB bF,OB bC] 110);have z0:=G.cell 0;have z3:=G.cell 3;have z4:=G.cell 4;(try dsimp only at z0 z3 z4);clear G B)|(go_at_call 82;refine(D.out _).mono ?_;rintro e w3 ⟨rfl,B⟩;have M:=O ((j.out.alloc j.out.size _).trans (B.mono (j.out.alloc j.out.size _).size));clear B))
   go_ret;exact⟨rfl,M.out⟩
theorem F6 {l:List UInt8}{i:Int}{first:Bool}(h:(kT l i first).2.2.2≠0):(kT l i first).2.1=false:=by
 unfold kT at h⊢;dsimp only at h⊢
 split
 ·rfl
 split
 ·rename_i j h2
  rw[if_neg j,if_pos h2] at h;exact absurd rfl h
 split
 ·split
  ·rfl
  ·split<;>rfl
 ·split<;>rfl
structure iQ (l:List UInt8) (i:Int) (f0:Bool) (left0:Int) (L:List (Int×Int)) (p a:Int):Prop where
 p0:0<=p
 p1:p<=9223372036854775807
 p8:p<=8*(V l:Int)\/p=i
 a0:(V L:Int)<=a
 a1:a<=64
 eq:a8 l 66 i f0 left0=(L++(a8 l (66 - V L) p (f0&&(V L)==0) (64 - a)).1,(a8 l (66 - V L) p (f0&&(V L)==0) (64 - a)).2)
theorem ir (l:List UInt8)(f:Nat)(i:Int)(first:Bool)(left:Int):a8 l (f+1) i first left=
  (let r:=aR l i first
  if r.2.1 then([],i+r.2.2.1,0) else if r.2.2.2 !=0 then([],0,r.2.2.2) else
  if left - (r.1.1+1)<0 then([],0,11) else
  let q:=a8 l f (i+r.2.2.1) false (left - (r.1.1+1))
  (r.1::q.1,q.2.1,q.2.2)):=rfl
theorem iQ.open {l:List UInt8}{i:Int}{f0:Bool}{left0:Int}{L:List (Int×Int)}{p a:Int}(h:iQ l i f0 left0 L p a):∃g,66 - V L=g+1/\65 - V L=g:=⟨65 - V L,by have:=h.a0;have:=h.a1;omega,rfl⟩
theorem iQ.err {l:List UInt8}{i:Int}{f0:Bool}{left0:Int}{L:List (Int×Int)}{p a G I bt er:Int}{B:Bool}(h:iQ l i f0 left0 L p a)(C:aR l p (f0&&(V L)==0)=((G,I),B,bt,er))(he:er≠0):a8 l 66 i f0 left0=(L,0,er):=by
 obtain⟨g,D,_⟩:=h.open;have j:=h.eq
 have h2:B=false:=by
  have:= @F6 l p (f0&&(V L)==0);rw[tW,C] at this;exact this he
 rw[D,ir l g p,C] at j;dsimp only at j;rw[h2,if_neg OM,if_pos (by simpa using he)] at j
 simpa using j
theorem iQ.stop {l:List UInt8}{i:Int}{f0:Bool}{left0:Int}{L:List (Int×Int)}{p a D G bt:Int}(h:iQ l i f0 left0 L p a)(B:aR l p (f0&&(V L)==0)=((D,G),true,bt,0)):a8 l 66 i f0 left0=(L,p+bt,0):=by
 obtain⟨g,C,_⟩:=h.open;have j:=h.eq;rw[C,ir l g p,B] at j;dsimp only at j;rw[if_pos rfl] at j
 simpa using j
theorem iQ.over {l:List UInt8}{i:Int}{f0:Bool}{left0:Int}{L:List (Int×Int)}{p a B G bt:Int}(h:iQ l i f0 left0 L p a)(C:aR l p (f0&&(V L)==0)=((B,G),false,bt,0))(I:63<a+B):a8 l 66 i f0 left0=(L,0,11):=by
 obtain⟨g,D,_⟩:=h.open;have j:=h.eq;rw[D,ir l g p,C] at j;dsimp only at j;rw[if_neg OM,if_neg (by decide),if_pos (by omega)] at j
 simpa using j
theorem iQ.ok {l:List UInt8}{i:Int}{f0:Bool}{left0:Int}{L:List (Int×Int)}{p a D N bt:Int}{G:Bool}(h:iQ l i f0 left0 L p a)(_hi8:8*(V l:Int)<=9223372036854775807)(j:aR l p (f0&&(V L)==0)=((D,N),G,bt,0)):
  1<=bt/\p+bt<=8*(V l:Int)/\(G=false->0<=D/\D<=63):=by
 have M:p<=8*(V l:Int):=by
  rcases Int.lt_or_le (8*(V l:Int)) p with B|B
  ·exfalso
   have K:=h.p0;unfold aR at j;rw[if_neg (by omega),if_pos B] at j;injection j with _ j;injection j with _ j;injection j with _ j
   cases j
  ·exact B
 have:=lL l p (f0&&(V L)==0) h.p0 M;rw[j] at this;obtain⟨q0,q1,I,C,_⟩:=this;dsimp only at q0 q1 I C;have K:=h.p0;exact⟨I rfl,by omega,λhe=>⟨(C rfl he).1,(C rfl he).2.1⟩⟩
theorem iQ.next {l:List UInt8}{i:Int}{f0:Bool}{left0:Int}{L:List (Int×Int)}{p a j G bt:Int}(h:iQ l i f0 left0 L p a)(D:8*(V l:Int)<=9223372036854775807)(I:aR l p (f0&&(V L)==0)=((j,G),false,bt,0))(ho:¬63<a+j):iQ l i f0 left0 (L++[(j,G)]) (p+bt) (a+j+1):=by
 obtain⟨b1,K,M⟩:=h.ok D I;have b4:=M rfl;obtain⟨g,hg,aC⟩:=h.open;have C:=h.eq;rw[hg,ir l g p,I] at C;dsimp only at C;rw[if_neg OM,if_neg (by decide),if_neg (by omega)] at C;have B:(L++[(j,G)]).length=V L+1:=by simp
 have h0:=h.p0;have aB:=h.a0;refine⟨by omega,by omega,.inl K,by rw[B];omega,by omega,?_⟩;have N:66 - (V L+1)=g:=by omega
 have T:(f0&&(V L)+1==0)=false:=by simp
 have e3:64 - (a+j+1)=64 - a - (j+1):=by omega
 rw[B,N,T,e3,C];simp
theorem sI {l:List UInt8}{i p:Int}{f0:Bool}{a:Int}(B:0<=p)(C:p<=9223372036854775807)(j:a=0\/a=1)(_hi:p<=8*(V l:Int)\/p=i):iQ l p f0 (64 - a) [] p a:=by
 refine⟨B,C,.inr rfl,by rcases j with rfl|rfl<;>simp,by rcases j with rfl|rfl<;>decide,?_⟩;simp
theorem H6 {l:List UInt8}{i:Int}(h:i<0)(intra:Bool):a9 l i intra=(⟨0,[]⟩,0,3):=by unfold a9;rw[if_pos h]
theorem BT {l:List UInt8}{i:Int}(h:¬i<0):a9 l i true=if 8*(V l:Int)<i+8 then(⟨0,[]⟩,0,5) else if !tO (au l i.toNat 8:Nat) then(⟨0,[]⟩,0,10) else
  if (a8 l 66 (i+8) false 63).2.2 !=0 then(⟨0,[]⟩,0,(a8 l 66 (i+8) false 63).2.2) else(⟨(au l i.toNat 8:Nat),(a8 l 66 (i+8) false 63).1⟩,(a8 l 66 (i+8) false 63).2.1 - i,0):=by
 unfold a9;rw[if_neg h];dsimp only;have B:=cW l i.toNat 8
 have C:(!tO (au l i.toNat 8:Nat))=(au l i.toNat 8==0||au l i.toNat 8==128):=by
  generalize au l i.toNat 8=x at*;have B:x<256:=B;unfold tO;rw[OW];simp;omega
 rw[C]
 by_cases j:8*(V l:Int)<i
 ·rw[if_pos j,if_pos (by omega)]
 ·rw[if_neg j]
  by_cases h2:8*(V l:Int)<i+8
  ·simp only[h2,if_true]
  ·simp only[h2,if_false];rfl
theorem BS {l:List UInt8}{i:Int}(h:¬i<0):a9 l i false=
  if (a8 l 66 i true 64).2.2 !=0 then(⟨0,[]⟩,0,(a8 l 66 i true 64).2.2) else(⟨0,(a8 l 66 i true 64).1⟩,(a8 l 66 i true 64).2.1 - i,0):=by
 unfold a9;rw[if_neg h]
 by_cases j:8*(V l:Int)<i
 ·have e:a8 l 66 i true 64=([],0,5):=by
   rw[ir l 65 i];unfold aR;rw[if_neg h,if_pos j];rfl
  rw[if_pos j,e]
  rfl
 ·rw[if_neg j,if_neg OM]
theorem EW (A:Option Addr)(n c:Nat)(l:List UInt8)(i:Int)(intra:Bool)(w:World)(hA:Sl w A (l.map af))(hn:V l=n)(hsz:n<=2 ^ 47)(hi: -9223372036854775808<=i/\i<=9223372036854775807):
  Calls OK 195 #[OA A n c,Z U i,OB intra] w (DM (a9 l i intra) w):=by
 by_cases h0:i<0
 ·have d0:decide (i<0)=true:=decide_eq_true h0
  rw[H6 h0];clear hi h0
  go_enter OQ,OP
  go_wp2_with fail
  refine bodyPost_ret (by simp[results,OF,go_sem];try rfl) rfl ?_;exact⟨_,rfl,(Below.refl _ _).alloc (J _) _,OE _ _ _ _⟩
 have d0:decide (i<0)=false:=decide_eq_false h0;have HA:=O hA;have HN:=O hn;have K:=O hsz;have HI:=O hi;have H0:=O h0;have C1:=O (λW=>zT intra W);have T:=((Below.refl _ w).alloc (J _) (OD #[Z U 0,OA none 0 0] 93)).alloc (by simp) (OD #[Z U 0,OA none 0 0] 93)
 have J2:aa [(w.heap.size,93,#[Z U 0,OA none 0 0]),(w.heap.size+1,93,#[Z U 0,OA none 0 0])] ((w.alloc (OD #[Z U 0,OA none 0 0] 93)).alloc (OD #[Z U 0,OA none 0 0] 93)):=
  aa.cons ((ab.new w _ _).alloc _) (aa.cons (aH (ab.new _ _ _) (by simp)) (ag _))
 have dY:=O T;have K6:=O J2;clear hA hn hsz hi h0 T J2
 have Iq:Hid (∀dc:Int,ar w [(w.heap.size,93,#[Z U 0,OA none 0 0]),(w.heap.size+1,93,#[Z U dc,OA none 0 0])] [⟨w.heap.size,189,2,OA none 0 0,0,[]⟩] ((w.alloc (OD #[Z U 0,OA none 0 0] 93)).alloc (OD #[Z U dc,OA none 0 0] 93))):=O (λdc=>
  ⟨((Below.refl _ w).alloc (J _) _).alloc (by simp) _,aa.cons ((ab.new w _ _).alloc _) (aa.cons (aH (ab.new _ _ _) (by simp)) (ag _)),ai.cons (OE _ _ _ _) (aA _)⟩)
 obtain⟨R,B⟩:∃R,a9 l i intra=R:=⟨_,rfl⟩;rw[B]
 cases intra with
 |true=>
  rw[BT H0.out] at B
  by_cases h8:8*(V l:Int)<i+8
  ·rw[if_pos h8] at B
   subst B;have CR:=O (λW=>cZ A n c i 8 W (by have:=H0.out;omega) (by decide) (by decide) (by have:=HN.out;omega) HI.out.2 K.out);clear h8
   go_enter OQ,OP
   go_wp2_with (first|(go_at_call 135;refine(C1.out _).mono ?_;rintro e w' ⟨rfl,rfl⟩)|(go_at_call 91;refine(CR.out _).mono ?_;rintro e w' ⟨rfl,rfl⟩))
   refine bodyPost_ret (by simp[results,OF,go_sem];try rfl) rfl ?_;exact⟨_,rfl,dY.out,OE _ _ _ _⟩
  ·rw[if_neg h8] at B
   have CR:=O (λW hW=>dL A n c l i 8 W hW HN.out (by have:=H0.out;omega) (by decide) (by decide) (by have:=HN.out;omega) K.out);rw[show (8:Int).toNat=8 from rfl] at CR;have hx:=cW l i.toNat 8;have CX:=O (λ(x:Int) W=>Dk x W);generalize au l i.toNat 8=x at B hx CR;have H8:=O h8;clear h8
   cases hc:tO (x:Int) with
   |false=>
    rw[hc,if_pos (by rfl)] at B;subst B;have CY:=O (λW=>CX.out (x:Int) W);rw[hc] at CY;clear CX hc
    go_enter OQ,OP
    go_wp2_with (first|(go_at_call 135;refine(C1.out _).mono ?_;rintro e w' ⟨rfl,rfl⟩)|(go_at_call 91;refine(CR.out _ (HA.out.below dY.out)).mono ?_;rintro e w' ⟨rfl,rfl⟩)|(go_at_call 133;refine(CY.out _).mono ?_;rintro e w' ⟨rfl,rfl⟩))
    refine bodyPost_ret (by simp[results,OF,go_sem];try rfl) rfl ?_;exact⟨_,rfl,dY.out,OE _ _ _ _⟩
   |true=>
    rw[hc,if_neg (by decide)] at B;have HR:=O B;have CY:=O (λW=>CX.out (x:Int) W);rw[hc] at CY;clear CX hc B
    go_enter OQ,OP
    go_wp2_with (first|(go_at_call 135;refine(C1.out _).mono ?_;rintro e w' ⟨rfl,rfl⟩)|(go_at_call 91;refine(CR.out _ (HA.out.below dY.out)).mono ?_;rintro e w' ⟨rfl,rfl⟩)|(go_at_call 133;refine(CY.out _).mono ?_;rintro e w' ⟨rfl,rfl⟩))
    have fW:=O (by have:=sI (l:=l) (i:=i+8) (p:=i+8) (f0:=false) (a:=1) (by have:=H0.out;omega) (by have:=HI.out;have:=K.out;have:=H8.out;have:=HN.out;omega) (by decide) (.inl (by have:=H8.out;omega));simpa using this);go_wp2_with fail
    go_loopg [10,11] 66 (λg tb tp=> λwr=>∃(L:List (Int×Int))(v:Value)(p a:Int),V L+g=66/\tb=Z U (p - i)/\tp=Z U a/\Hid (iQ l (i+8) false 63 L p a)/\Hid (ar w [(w.heap.size,93,#[Z U 0,OA none 0 0]),(w.heap.size+1,93,#[Z U (x:Int),v])] [⟨w.heap.size,189,2,v,V L,av bj L⟩] wr))
    case atStart=>exact⟨[],_,i+8,1,rfl,by rw[show i+8 - i=8 by omega],rfl,fW,O (Iq.out (x:Int))⟩
    case round=>
     obtain⟨L,v,p,a,hL,rfl,rfl,j,HC⟩:=hrel
     cases gk with
     |zero=>have h1:=j.out.a0;have h2:=j.out.a1;omega
     |succ g=>
      obtain⟨A1,c1,hv⟩:=aP HC.out.2.2.head;dsimp only at hv;subst hv;have K3:=j.out.p0;have wj:=j.out.p1;have Io:=j.out.p8;have hU:=j.out.a0;have ja:=j.out.a1;have hn:=HN.out;have hsz:=K.out;have kz:=H0.out;have rX:=HI.out;have K5:X.wrap (i+(p - i))=p:=(by rw[show i+(p - i)=p by omega,Y];omega);obtain⟨⟨⟨I,r2⟩,en,bt,er⟩,hr⟩:∃r,aR l p (false&&(V L)==0)=r:=⟨_,rfl⟩;have N:=O hr;have cg:= λW hW=>vw A n c l p (false&&(V L)==0) W hW HN.out K.out ⟨by omega,wj⟩;rw[tW,hr] at cg;unfold wJ at cg;dsimp only at cg;simp only[OC] at cg;have CG:=O cg;have x9:=HC.out.2.1.tail.head;have y0:=x9.cell 0;have y1:=x9.cell 1;(try dsimp only at y0 y1);have gy:=O hL;clear cg hr x9 hL Io hn kz rX;go_wp2_with fail
      refine(CG.out _ (HA.out.below HC.out.1)).mono ?_;rintro e w3 ⟨rfl,D⟩;have aB:=ao (aO HC.out D) (OD #[Z U I,Z U r2] 189);have x6:=aB.2.1.head;have x9:=aB.2.1.tail.head;have u0:=x6.cell 0;have u1:=x6.cell 1;have f0:=x6.frozen 0;have f1:=x6.frozen 1;have v0:=x9.cell 0;have v1:=x9.cell 1;(try dsimp only at u0 u1 v0 v1 f0 f1);have M:=O aB;clear D aB x6 x9 y0 y1 CG
      cases he:(er !=0) with
      |true=>
       have C:=j.out.err N.out (by simpa using he);have B:=HR.out;rw[C] at B;dsimp only at B;rw[if_pos he] at B;subst B;clear C;go_wp2_with fail
       have h5:=bB M.out (J _) 0 (Z U 0) (by simp) (by simp);have G:=bB h5 (J _) 1 (OA none 0 0) (by simp) (by simp);have s0:=G.2.1.head.cell 0;have s1:=G.2.1.head.cell 1;simp at s0 s1;refine bodyPost_ret (by simp[results,OF,go_sem,s0,s1];try rfl) rfl ?_;exact⟨_,rfl,G.1,OE _ _ _ _⟩
      |false=>
       have jT:er=0:=(by simpa using he);subst jT;obtain⟨T,bE,D⟩:=j.out.ok (by have:=HN.out;have:=K.out;omega) N.out;have K4:X.wrap (p - i+bt)=p - i+bt:=by have:=H0.out;have:=HI.out;have:=HN.out;rw[Y];omega
       cases en with
       |true=>
        have C:=j.out.stop N.out;have B:=HR.out;rw[C] at B;dsimp only at B;rw[if_neg (by decide),show p+bt - i=p - i+bt by omega] at B;subst B;clear C T bE D he;go_wp2_with fail
        have h5:=bB M.out (J _) 0 (Z U (x:Int)) (by simp) (by simp);have G:=bB h5 (J _) 1 (OA A1 (V L) c1) (by simp) (by simp);have s0:=G.2.1.head.cell 0;have s1:=G.2.1.head.cell 1;simp at s0 s1;refine bodyPost_ret (by simp[results,OF,go_sem,s0,s1];try rfl) rfl ?_;exact⟨_,rfl,G.1,G.2.2.head⟩
       |false=>
        obtain⟨cz,dt⟩:=D rfl
        by_cases ho:63<a+I
        ·have C:=j.out.over N.out ho
         have B:=HR.out;rw[C] at B;dsimp only at B;rw[if_pos (by decide)] at B;subst B;have hd:decide (63<a+I)=true:=decide_eq_true ho;have Ip:X.wrap (a+I)=a+I:=(by rw[Y];omega);clear C ho T bE cz dt D he;go_wp2_with fail
         have h5:=bB M.out (J _) 0 (Z U 0) (by simp) (by simp);have G:=bB h5 (J _) 1 (OA none 0 0) (by simp) (by simp);have s0:=G.2.1.head.cell 0;have s1:=G.2.1.head.cell 1;simp at s0 s1;refine bodyPost_ret (by simp[results,OF,go_sem,s0,s1];try rfl) rfl ?_;exact⟨_,rfl,G.1,OE _ _ _ _⟩
        ·have dD:=j.out.next (by have:=HN.out;have:=K.out;omega) N.out ho
         have gJ:=O dD;have hd:decide (63<a+I)=false:=decide_eq_false ho;have Ip:X.wrap (a+I)=a+I:=(by rw[Y];omega);have K1:X.wrap (a+I+1)=a+I+1:=(by rw[Y];omega);have K0:V L<=64:=(by omega);clear dD ho T bE cz dt D he hU ja;go_wp2_with (at_builtin;refine bW pm rfl rfl 1 [Z U I,Z U r2] rfl M.out (by rw[Oa];rfl) rfl (by intro u hu;simp at hu;rcases hu with rfl|rfl<;>rfl) (by omega) ⟨J _,M.out.1.size⟩ (by simp) (by simp) ?_;intro v' W5 aC;obtain⟨A2,c2,dE⟩:=aP aC.2.2.head;dsimp only at dE;subst dE;have q9:=aC.2.1.tail.head;have j1:=q9.cell 1;have j2:=q9.frozen 1;(try dsimp only at j1 j2);have eE:=O aC;clear aC q9)
         go_roundg g
         case measure=>omega
         case rel=>
          refine⟨L++[(I,r2)],OA A2 (V L+1) c2,p+bt,a+I+1,by rw[ON];have:=gy.out;simp;omega,by rw[show p+bt - i=p - i+bt by omega],rfl,gJ,O ?_⟩;have G:=ez (bB (ez eE.out) (OI _) 1 (OA A2 (V L+1) c2) (by simp) (by simp));rw[pL,ON];exact G
 |false=>
  rw[BS H0.out] at B;have HR:=O B;clear B
  go_enter OQ,OP
  go_wp2_with (go_at_call 135;refine(C1.out _).mono ?_;rintro e w' ⟨rfl,rfl⟩)
  have fW:=O (by have:=sI (l:=l) (i:=i) (p:=i) (f0:=true) (a:=0) (by have:=H0.out;omega) (by have:=HI.out;have:=K.out;omega) (by decide) (.inr rfl);simpa using this);go_wp2_with fail
  go_loopg [10,11] 66 (λg tb tp=> λwr=>∃(L:List (Int×Int))(v:Value)(p a:Int),V L+g=66/\tb=Z U (p - i)/\tp=Z U a/\Hid (iQ l (i) true 64 L p a)/\Hid (ar w [(w.heap.size,93,#[Z U 0,OA none 0 0]),(w.heap.size+1,93,#[Z U 0,v])] [⟨w.heap.size,189,2,v,V L,av bj L⟩] wr))
  case atStart=>exact⟨[],_,i,0,rfl,by rw[show i - i=0 by omega],rfl,fW,O (Iq.out 0)⟩
  case round=>
   obtain⟨L,v,p,a,hL,rfl,rfl,j,HC⟩:=hrel
   cases gk with
   |zero=>have h1:=j.out.a0;have h2:=j.out.a1;omega
   |succ g=>
    obtain⟨A1,c1,hv⟩:=aP HC.out.2.2.head;dsimp only at hv;subst hv;have K3:=j.out.p0;have wj:=j.out.p1;have Io:=j.out.p8;have hU:=j.out.a0;have ja:=j.out.a1;have hn:=HN.out;have hsz:=K.out;have kz:=H0.out;have rX:=HI.out;have K5:X.wrap (i+(p - i))=p:=(by rw[show i+(p - i)=p by omega,Y];omega);obtain⟨⟨⟨I,r2⟩,en,bt,er⟩,hr⟩:∃r,aR l p (true&&(V L)==0)=r:=⟨_,rfl⟩;have N:=O hr;have cg:= λW hW=>vw A n c l p (true&&(V L)==0) W hW HN.out K.out ⟨by omega,wj⟩;rw[tW,hr] at cg;unfold wJ at cg;dsimp only at cg;simp only[OG] at cg;have K2:((V L:Int)==0)=((V L)==0):=(by cases L<;>simp<;>omega);obtain⟨b,hb⟩:∃b,((V L)==0)=b:=⟨_,rfl⟩;rw[hb] at K2 cg;clear hb;have CG:=O cg;have x9:=HC.out.2.1.tail.head;have y0:=x9.cell 0;have y1:=x9.cell 1;(try dsimp only at y0 y1);have gy:=O hL;clear cg hr x9 hL Io hn kz rX;go_wp2_with fail
    refine(CG.out _ (HA.out.below HC.out.1)).mono ?_;rintro e w3 ⟨rfl,D⟩;have aB:=ao (aO HC.out D) (OD #[Z U I,Z U r2] 189);have x6:=aB.2.1.head;have x9:=aB.2.1.tail.head;have u0:=x6.cell 0;have u1:=x6.cell 1;have f0:=x6.frozen 0;have f1:=x6.frozen 1;have v0:=x9.cell 0;have v1:=x9.cell 1;(try dsimp only at u0 u1 v0 v1 f0 f1);have M:=O aB;clear D aB x6 x9 y0 y1 CG
    cases he:(er !=0) with
    |true=>
     have C:=j.out.err N.out (by simpa using he);have B:=HR.out;rw[C] at B;dsimp only at B;rw[if_pos he] at B;subst B;clear C;go_wp2_with fail
     have h5:=bB M.out (J _) 0 (Z U 0) (by simp) (by simp);have G:=bB h5 (J _) 1 (OA none 0 0) (by simp) (by simp);have s0:=G.2.1.head.cell 0;have s1:=G.2.1.head.cell 1;simp at s0 s1;refine bodyPost_ret (by simp[results,OF,go_sem,s0,s1];try rfl) rfl ?_;exact⟨_,rfl,G.1,OE _ _ _ _⟩
    |false=>
     have jT:er=0:=(by simpa using he);subst jT;obtain⟨T,bE,D⟩:=j.out.ok (by have:=HN.out;have:=K.out;omega) N.out;have K4:X.wrap (p - i+bt)=p - i+bt:=by have:=H0.out;have:=HI.out;have:=HN.out;rw[Y];omega
     cases en with
     |true=>
      have C:=j.out.stop N.out;have B:=HR.out;rw[C] at B;dsimp only at B;rw[if_neg (by decide),show p+bt - i=p - i+bt by omega] at B;subst B;clear C T bE D he;go_wp2_with fail
      have h5:=bB M.out (J _) 0 (Z U 0) (by simp) (by simp);have G:=bB h5 (J _) 1 (OA A1 (V L) c1) (by simp) (by simp);have s0:=G.2.1.head.cell 0;have s1:=G.2.1.head.cell 1;simp at s0 s1;refine bodyPost_ret (by simp[results,OF,go_sem,s0,s1];try rfl) rfl ?_;exact⟨_,rfl,G.1,G.2.2.head⟩
     |false=>
      obtain⟨cz,dt⟩:=D rfl
      by_cases ho:63<a+I
      ·have C:=j.out.over N.out ho
       have B:=HR.out;rw[C] at B;dsimp only at B;rw[if_pos (by decide)] at B;subst B;have hd:decide (63<a+I)=true:=decide_eq_true ho;have Ip:X.wrap (a+I)=a+I:=(by rw[Y];omega);clear C ho T bE cz dt D he;go_wp2_with fail
       have h5:=bB M.out (J _) 0 (Z U 0) (by simp) (by simp);have G:=bB h5 (J _) 1 (OA none 0 0) (by simp) (by simp);have s0:=G.2.1.head.cell 0;have s1:=G.2.1.head.cell 1;simp at s0 s1;refine bodyPost_ret (by simp[results,OF,go_sem,s0,s1];try rfl) rfl ?_;exact⟨_,rfl,G.1,OE _ _ _ _⟩
      ·have dD:=j.out.next (by have:=HN.out;have:=K.out;omega) N.out ho
       have gJ:=O dD;have hd:decide (63<a+I)=false:=decide_eq_false ho;have Ip:X.wrap (a+I)=a+I:=(by rw[Y];omega);have K1:X.wrap (a+I+1)=a+I+1:=(by rw[Y];omega);have K0:V L<=64:=(by omega);clear dD ho T bE cz dt D he hU ja;go_wp2_with (at_builtin;refine bW pm rfl rfl 1 [Z U I,Z U r2] rfl M.out (by rw[Oa];rfl) rfl (by intro u hu;simp at hu;rcases hu with rfl|rfl<;>rfl) (by omega) ⟨J _,M.out.1.size⟩ (by simp) (by simp) ?_;intro v' W5 aC;obtain⟨A2,c2,dE⟩:=aP aC.2.2.head;dsimp only at dE;subst dE;have q9:=aC.2.1.tail.head;have j1:=q9.cell 1;have j2:=q9.frozen 1;(try dsimp only at j1 j2);have eE:=O aC;clear aC q9)
       go_roundg g
       case measure=>omega
       case rel=>
        refine⟨L++[(I,r2)],OA A2 (V L+1) c2,p+bt,a+I+1,by rw[ON];have:=gy.out;simp;omega,by rw[show p+bt - i=p - i+bt by omega],rfl,gJ,O ?_⟩;have G:=ez (bB (ez eE.out) (OI _) 1 (OA A2 (V L+1) c2) (by simp) (by simp));rw[pL,ON];exact G
theorem qZ (x:bi)(ad:Int)(w:World):Calls OK 116 #[Oj #[Z U x.ad,OB x.had,Z U x.x,Z U x.y],Z U ad] w λe w'=>e=OL (OB (cu x ad))/\Below w.heap.size w w':=by
 obtain⟨la,lh,j,B⟩:=x;unfold cu aK;dsimp only;have C:=O ((Below.refl _ w).alloc (J _) (OD #[Z U la,OB lh,Z U j,Z U B] 102))
 by_cases a1:la<0
 ·have e1:decide (la<0)=true:=decide_eq_true a1
  have D:decide (0<=la)=false:=(by simp;omega);rw[D];simp only[OC];clear a1 D
  go_enter OJ,OH
  go_wp2_with fail
  go_ret;exact⟨rfl,C.out⟩
 have e1:decide (la<0)=false:=decide_eq_false a1;have D:decide (0<=la)=true:=by simp;omega
 rw[D];clear a1 D
 by_cases a2:la<ad
 ·have e2:decide (ad<=la)=false:=by simp;omega
  have G:decide (la<ad)=true:=decide_eq_true a2;rw[G];clear a2 G
  by_cases N:j< -15
  ·have e3:decide (j< -15)=true:=decide_eq_true N
   have I:decide (-15<=j)=false:=(by simp;omega);rw[I];simp only[OC,OO,OG];clear N I
   go_enter OJ,OH
   go_wp2_with fail
   go_ret;exact⟨rfl,C.out⟩
  have e3:decide (j< -15)=false:=decide_eq_false N;have I:decide (-15<=j)=true:=(by simp;omega);rw[I];clear N I
  by_cases T:15<j
  ·have e4:decide (15<j)=true:=decide_eq_true T
   have f4:decide (j<=15)=false:=(by simp;omega);rw[f4];simp only[OC,OO,OG];clear T f4
   go_enter OJ,OH
   go_wp2_with fail
   go_ret;exact⟨rfl,C.out⟩
  have e4:decide (15<j)=false:=decide_eq_false T;have f4:decide (j<=15)=true:=(by simp;omega);rw[f4];clear T f4
  by_cases a5:B< -15
  ·have e5:decide (B< -15)=true:=decide_eq_true a5
   have K:decide (-15<=B)=false:=(by simp;omega);rw[K];simp only[OC,OO,OG];clear a5 K
   go_enter OJ,OH
   go_wp2_with fail
   go_ret;exact⟨rfl,C.out⟩
  have e5:decide (B< -15)=false:=decide_eq_false a5;have K:decide (-15<=B)=true:=(by simp;omega);rw[K];clear a5 K
  by_cases a6:15<B
  ·have e6:decide (15<B)=true:=decide_eq_true a6
   have M:decide (B<=15)=false:=(by simp;omega);rw[M];simp only[OC,OO,OG];clear a6 M
   go_enter OJ,OH
   go_wp2_with fail
   go_ret;exact⟨rfl,C.out⟩
  have e6:decide (15<B)=false:=decide_eq_false a6;have M:decide (B<=15)=true:=(by simp;omega);rw[M];clear a6 M
  cases lh with
  |true=>
   go_enter OJ,OH
   go_wp2_with fail
   go_ret;exact⟨rfl,C.out⟩
  |false=>
   cases a7:(j==0) with
   |true=>
    go_enter OJ,OH
    go_wp2_with fail
    go_ret;exact⟨rfl,C.out⟩
   |false=>
    go_enter OJ,OH
    go_wp2_with fail
    go_ret;exact⟨rfl,C.out⟩
 ·have e2:decide (ad<=la)=true:=by simp;omega
  have G:decide (la<ad)=false:=decide_eq_false a2;rw[G];simp only[OC,OO];clear a2 G
  go_enter OJ,OH
  go_wp2_with fail
  go_ret;exact⟨rfl,C.out⟩
theorem zU (m:aT)(A:Option Addr)(n c:Nat)(w:World):Calls OK 72 #[Oj #[Z U m.ad,Z U m.kd,Z U m.qu,Z U m.x,Z U m.y,Z U m.pa,OA A n c]] w λe w'=>e=OL (Oj #[Z U (ed m).ad,OB (ed m).had,Z U (ed m).x,Z U (ed m).y])/\Below w.heap.size w w':=by
 obtain⟨ad,kd,qu,mx,my,pa,bl⟩:=m;have I:=O (λW=>rM kd W);have hb:=((Below.refl _ w).alloc (J _) (OD #[Z U ad,Z U kd,Z U qu,Z U mx,Z U my,Z U pa,OA A n c] 55)).alloc (by simp) (OD #[Z U 0,OB false,Z U 0,Z U 0] 102)
 have hc:aa [(w.heap.size,55,#[Z U ad,Z U kd,Z U qu,Z U mx,Z U my,Z U pa,OA A n c]),(w.heap.size+1,102,#[Z U 0,OB false,Z U 0,Z U 0])] ((w.alloc (OD #[Z U ad,Z U kd,Z U qu,Z U mx,Z U my,Z U pa,OA A n c] 55)).alloc (OD #[Z U 0,OB false,Z U 0,Z U 0] 102)):=
  aa.cons ((ab.new w _ _).alloc _) (aa.cons (aH (ab.new _ _ _) (by simp)) (ag _))
 have HB:=O hb;have HC:=O hc;unfold ed;dsimp only;obtain⟨v,hv⟩:∃v,pV kd=v:=⟨_,rfl⟩;unfold nt ui at I;obtain⟨oe,N⟩:∃oe:Int,(if f9 kd then 0 else 18)=oe:=⟨_,rfl⟩;rw[hv] at I⊢;rw[N] at I;clear hb hc hv N
 go_enter Tryz.func72,Tryz.ntmps72
 go_wp2_with fail
 refine(I.out _).mono ?_;rintro e w1 ⟨rfl,D⟩;have G:=HB.out.trans (D.mono HB.out.size);have K:=O (G.alloc G.size (OD #[OB (pI kd),OB (pQ kd),OB v,OB (pF kd),OB (pC kd)] 110));have B:=(HC.out.below D).alloc (OD #[OB (pI kd),OB (pQ kd),OB v,OB (pF kd),OB (pC kd)] 110);have M:=O B;have x6:=B.head;have C:=B.tail.head;have u0:=x6.cell 0;have u1:=x6.cell 3;have u2:=x6.cell 4;have v0:=C.cell 0;have v1:=C.cell 1;have v2:=C.cell 2;have v3:=C.cell 3;have f0:=C.frozen 0;have f1:=C.frozen 1;have f2:=C.frozen 2;have f3:=C.frozen 3;(try dsimp only at u0 u1 u2 v0 v1 v2 v3 f0 f1 f2 f3);clear D G B x6 C I
 cases v with
 |true=>
  go_wp2_with fail
  have j:=((((M.out.tail.head.set_ 0 (Z U ad)).set_ 1 (OB true)).set_ 2 (Z U mx)).set_ 3 (Z U my));have T:=j.cell 0;have s1:=j.cell 1;have s2:=j.cell 2;have s3:=j.cell 3;simp at T s1 s2 s3;refine bodyPost_ret (by simp[results,Oc,go_sem,T,s1,s2,s3];try rfl) rfl ?_;exact⟨rfl,(((K.out.setCell (p:=⟨w.heap.size+1,0,none⟩) (OI _) _).setCell (p:=⟨w.heap.size+1,1,none⟩) (OI _) _).setCell (p:=⟨w.heap.size+1,2,none⟩) (OI _) _).setCell (p:=⟨w.heap.size+1,3,none⟩) (OI _) _⟩
 |false=>
  go_wp2_with fail
  have j:=((((M.out.tail.head.set_ 0 (Z U ad)).set_ 1 (OB false)).set_ 2 (Z U 0)).set_ 3 (Z U 0));have T:=j.cell 0;have s1:=j.cell 1;have s2:=j.cell 2;have s3:=j.cell 3;simp at T s1 s2 s3;refine bodyPost_ret (by simp[results,Oc,go_sem,T,s1,s2,s3];try rfl) rfl ?_;exact⟨rfl,(((K.out.setCell (p:=⟨w.heap.size+1,0,none⟩) (OI _) _).setCell (p:=⟨w.heap.size+1,1,none⟩) (OI _) _).setCell (p:=⟨w.heap.size+1,2,none⟩) (OI _) _).setCell (p:=⟨w.heap.size+1,3,none⟩) (OI _) _⟩
end Go.Proofs.YthhijgcfbjcgiaaGreatDoor

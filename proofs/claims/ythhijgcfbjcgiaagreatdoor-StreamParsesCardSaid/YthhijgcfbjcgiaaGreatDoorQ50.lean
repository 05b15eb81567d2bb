/- RMac, RSho, RPar -/
import Derived.Test.YthhijgcfbjcgiaaGreatDoorQ49
import Derived.Test.YthhijgcfbjcgiaaGreatDoorQ46
import Derived.Test.YthhijgcfbjcgiaaGreatDoorQ45
namespace Go.Proofs.YthhijgcfbjcgiaaGreatDoor
open Go Go.RowKit
attribute [local go_sem] Oper.semAt_some
set_option maxHeartbeats 16000000
set_option maxRecDepth 100000
open Go.Lib renaming hid→O
open Go.Value renaming slice→U,int→Y,tuple→OM,bool→OT,pointer→OU
open List renaming length→Z,length_singleton→OB,length_append→OD,mem_cons→OJ,flatMap_append→OK,mem_singleton→OL,mem_append→ON,map_singleton→OO,mem_nil_iff→OQ,map_append→OS
open Go.IntKind renaming i64→V,wrap_i64→OC,i64→OF
open Go.Obj renaming cells→X
open Nat renaming le_refl→J
open Int renaming toNat_natCast→OA
open Tryz renaming results96→OE,results20→OH,prog→OP
open Go.Ending renaming returned→OG
open Go.World renaming ownsRow_nil→OI,size_alloc→OR
structure o5 (w:World) (hl:Nat) (x:bi) (v:Value) (es:List dF) (W:World):Prop where
 be:Below w.heap.size w W
 la:ab W hl 102 (jm x)
 hl:w.heap.size<=hl
 rows:ai (⟨w.heap.size,55,7,v,Z es,av dy es⟩::fc w.heap.size es) W
section
variable {w:World} {hl:Nat} {x:bi} {v:Value} {es:List dF} {W W':World}
theorem o5.below (h:o5 w hl x v es W)(j:Below W.heap.size W W'):o5 w hl x v es W':=
 ⟨h.be.trans (j.mono h.be.size),h.la.below j h.la.lt,h.hl,cD h.rows j⟩
theorem o5.last (h:o5 w hl x v es W)(y:bi):o5 w hl y v es ((((W.setCell ⟨hl,0,none⟩ (Y V y.ad)).setCell ⟨hl,1,none⟩ (OT y.had)).setCell ⟨hl,2,none⟩ (Y V y.x)).setCell ⟨hl,3,none⟩ (Y V y.y)):=by
 have B:=h.la.set_ 0 (Y V y.ad);have C:=B.set_ 1 (OT y.had);have D:=C.set_ 2 (Y V y.x);have G:=D.set_ 3 (Y V y.y);have j:∀r∈(⟨w.heap.size,55,7,v,Z es,av dy es⟩::fc w.heap.size es:List aV),r.e≠102:=lN (by decide) (by decide) (by decide)
 refine⟨(((h.be.setCell (p:=⟨hl,0,none⟩) h.hl _).setCell (p:=⟨hl,1,none⟩) h.hl _).setCell (p:=⟨hl,2,none⟩) h.hl _).setCell (p:=⟨hl,3,none⟩) h.hl _,?_,h.hl,
  br (br (br (br h.rows h.la j _ _) B j _ _) C j _ _) D j _ _⟩
 unfold jm at*
 simpa using G
end
theorem JL {w:World}{hl:Nat}{x:bi}{v:Value}{B:List dF}{W G:World}{p:dF}{v':Value}(C:o5 w hl x v B W)(hp:ai (kW w.heap.size p) W)(ho:G.ownsRow w.heap.size 55 7 v' (Z B+1) (av dy B++dy p))(K:W.grownBy G v.ownBlock):o5 w hl x v' (B++[p]) G:=by
 have j:=C.rows.head;dsimp only at j;refine⟨eF C.be j K C.be.size (J _),C.la.grown K (ba j C.la (by decide)),C.hl,?_⟩;have M:(B++[p]).length=Z B+1:=by rw[OD,OB]
 refine ai.cons ?_ ?_
 ·rw[M,eo,dV]
  exact ho
 ·have I:fc w.heap.size (B++[p])=fc w.heap.size B++kW w.heap.size p:=by unfold fc;rw[OK];simp
  rw[I];have hk:∀R:List aV,ai R W->(∀r∈R,r.e≠55)->ai R G:= λR T N r D=>(T r D).kept K (ji j (T r D) (Ne.symm (N r D)));exact(hk _ C.rows.tail (by intro r D;rcases nC r D with h|h<;>rw[h]<;>decide)).app (hk _ hp (qw (by decide) (by decide)))
def r7 (r:List aT×Nat×Int) (w:World) (e:Ending) (w':World):Prop:=
 Below w.heap.size w w'/\((r.2.2=0/\∃v j,e=OG (OM #[v,Y V (r.2.1:Int),Y V 0])/\j.map (·.m)=r.1/\(∀m∈j,nS m)/\ai (⟨w.heap.size,55,7,v,Z j,av dy j⟩::fc w.heap.size j) w')\/(r.2.2≠0/\∃(i:Int),e=OG (OM #[U none 0 0,Y V i,Y V r.2.2])))
theorem E0 {w:World}{hl:Nat}{x:bi}{v:Value}{j:List dF}{W:World}(p:Nat)(h:o5 w hl x v j W)(B:∀m∈j,nS m):r7 (j.map (·.m)++[],p,0) w (OG (OM #[v,Y V (p:Int),Y V 0])) W:=
 ⟨h.be,.inl ⟨rfl,v,j,rfl,by simp,B,h.rows⟩⟩
theorem nH {w:World}{ms:List aT}{q:Nat}{W:World}(i e:Int)(h:Below w.heap.size w W)(he:e≠0):r7 (ms,q,e) w (OG (OM #[U none 0 0,Y V i,Y V e])) W:=
 ⟨h,.inr ⟨he,i,rfl⟩⟩
theorem yt (A:Option Addr)(n c:Nat)(l:List UInt8)(p0:Nat)(f nm:Int)(w:World)(hA:Sl w A (l.map af))(hn:Z l=n)(hsz:n<=2 ^ 40)(hp:p0<=8*n)(hf:f=0\/f=1)(L5:nm∈aJ f):
  Calls OP 96 #[U A n c,Y V (p0:Int),Y V f,Y V nm] w (r7 (bL l f nm (8*Z l+1) p0 co) w):=by
 have HA:=O hA;have HN:=O hn;have KQ:=O (And.intro hf L5);obtain⟨r,j⟩:∃r,bL l f nm (8*Z l+1) p0 co=r:=⟨_,rfl⟩;rw[j];obtain⟨hl,KK⟩:∃hl,w.heap.size=hl:=⟨_,rfl⟩;have G:ab (w.alloc (X #[Y V 0,OT false,Y V 0,Y V 0] 102)) hl 102 (jm co):=aH (ab.new _ _ _) KK
 have h0:o5 w hl co (U none 0 0) [] (w.alloc (X #[Y V 0,OT false,Y V 0,Y V 0] 102)):=
  ⟨(Below.refl _ _).alloc (J _) _,G,by omega,ai.cons (OI _ _ _ _) (aA _)⟩
 have Lm:=O h0;have Lj:=O j;have KT:=O hp;have aB:Hid (n<=2 ^ 47):=O (by omega);unfold jm at G;have f0:=G.frozen 0;have f1:=G.frozen 1;have f2:=G.frozen 2;have f3:=G.frozen 3;clear hf L5 j h0 hp hA G
 go_enter Tryz.func96,Tryz.ntmps96
 go_wp2_with fail
 (try rw[KK]);clear KK
 go_loopg [1,11] (8*n+1 - p0) (λgk at_ v=> λwr=>∃(k p:Nat)(x:bi)(es:List dF),at_=Y V (p:Int)/\p+gk=8*n+1/\p<=8*n/\Hid (8*n<p+k)/\Hid (r=(es.map (·.m)++(bL l f nm k p x).1,(bL l f nm k p x).2.1,(bL l f nm k p x).2.2))/\Hid (o5 w hl x v es wr)/\Hid (0<=x.ad/\x.ad<=33/\(Z es:Int)<=x.ad)/\Hid (∀m∈es,nS m))
 case atStart=>exact⟨8*Z l+1,p0,co,[],rfl,by have:=KT.out;omega,KT.out,O (by have:=HN.out;omega),O (by rw[Lj.out];rfl),Lm,O (by decide),O (λm hm=>by cases hm)⟩
 case round=>
  obtain⟨k,p,x,es,rfl,L6,N,HK,HE,HS,HX,HQ⟩:=hrel;obtain⟨k,rfl⟩:∃k',k=k'+1:=⟨k - 1,by have:=HK.out;omega⟩;obtain⟨Av,cv,hv⟩:=aP HS.out.rows.head;dsimp only at hv;subst hv;have CA:=ES A n c l (p:Int) wr (HA.out.below HS.out.be) hn (by have:=aB.out;omega) (by omega);obtain⟨⟨d,nb,e⟩,hd⟩:∃z,dz l (p:Int)=z:=⟨_,rfl⟩;have K3:= @rq l (p:Int) (by omega) (by rw[hn];omega);rw[hd] at CA K3;dsimp only at CA K3;have cz:=O CA;have HD:=O hd;have Kr:=O K3;have KU:=O L6;have LB:=O N;clear CA hd K3 L6 f0 f1 f2 f3
  by_cases Io:e=5
  ·subst Io
   have CO:=O (λW (h:Sl W A (l.map af))=>oX A n c l p W h HN.out (by have:=aB.out;omega) N);have CC:=O (λW=>kM 5 W);rw[show dQ 5=6 from rfl] at CC
   cases ho:dB l p with
   |true=>
    have j:=HE.out;rw[Bl HD.out ho] at j;dsimp only at j;subst j;rw[ho] at CO;clear ho N;go_wp2_with (first|(go_at_call 148;refine cz.out.mono ?_;rintro e2 w2 ⟨rfl,C⟩;have D:=O (HS.out.below C);clear C)|(go_at_call 50;refine(CO.out _ (HA.out.below D.out.be)).mono ?_;rintro e3 w3 ⟨rfl,rfl⟩))
    (try rw[Exit.noGoto_ret]);exact bodyPost_ret (by simp[results,OE,go_sem]) rfl (E0 p D.out HQ.out)
   |false=>
    have j:=HE.out;rw[Ev HD.out ho] at j;dsimp only at j;subst j;rw[ho] at CO;clear ho N;go_wp2_with (first|(go_at_call 148;refine cz.out.mono ?_;rintro e2 w2 ⟨rfl,C⟩;have D:=O (HS.out.below C);clear C)|(go_at_call 50;refine(CO.out _ (HA.out.below D.out.be)).mono ?_;rintro e3 w3 ⟨rfl,rfl⟩)|(go_at_call 52;refine(CC.out _).mono ?_;rintro e3 w3 ⟨rfl,rfl⟩))
    (try rw[Exit.noGoto_ret]);exact bodyPost_ret (by simp[results,OE,go_sem]) rfl (nH (p:Int) 6 D.out.be (by decide))
  have LC:(e==5)=false:=by simpa using Io
  by_cases wj:e=0
  ·subst wj
   have Kr:=O (Kr.out rfl)
   by_cases dt:d=34
   ·subst dt
    have j:=HE.out;rw[Bn HD.out] at j;dsimp only at j;subst j;clear N;go_wp2_with (go_at_call 148;refine cz.out.mono ?_;rintro e2 w2 ⟨rfl,C⟩;have D:=O (HS.out.below C);clear C)
    (try rw[Exit.noGoto_ret]);exact bodyPost_ret (by simp[results,OE,go_sem]) rfl (E0 p D.out HQ.out)
   obtain⟨dn,dE,KG,L4,K⟩:=Kr.out dt;have L7:=ph dn dE;obtain⟨T,Lt⟩:∃T:Nat,nb=(T:Int):=⟨_,L4⟩;subst Lt;rw[hn] at K;have L0:1<=T:=(by omega);have LE:OF.wrap ((p:Int)+(T:Int))=((p+T:Nat):Int):=(by rw[OC];omega);have ja:=O (show p+T<=8*n by omega);have K0:=O L0;clear L7 L4 K L0;have Lw:(d==34)=false:=by simpa using dt
   by_cases gy:d=0
   ·subst gy
    have j:=HE.out;rw[Bm HD.out,OA] at j;have HR:=O j;clear j N dE KG;go_wp2_with (go_at_call 148;refine cz.out.mono ?_;rintro e2 w2 ⟨rfl,C⟩;have D:=O (HS.out.below C);clear C)
    go_roundg (8*n+1 - (p+T))
    case measure=>have:=KU.out;have:=K0.out;have:=ja.out;omega
    case rel=>exact⟨k,p+T,x,es,rfl,by have:=ja.out;omega,ja.out,O (by have:=HK.out;have:=K0.out;omega),HR,D,HX,HQ⟩
   have Lx:(d==0)=false:=(by simpa using gy);have KH:1<=d/\d<=33:=(by omega);have CN:=O (λW=>De x.ad d W (by have:=HX.out;omega) (by omega));have L9:=HX.out
   have KM:ks x.ad d=if 33<x.ad+d then(0,13) else(x.ad+d,0):=by
    unfold ks;rw[if_neg (by omega)]
   rw[KM] at CN
   by_cases fW:33<x.ad+d
   ·rw[if_pos fW] at CN
    have j:=HE.out;rw[Bj HD.out dt gy fW] at j;dsimp only at j;subst j;clear N dE KG KH L9 KM fW dt gy;go_wp2_with (first|(go_at_call 148;refine cz.out.mono ?_;rintro e2 w2 ⟨rfl,C⟩;have D:=O (HS.out.below C);have B:=D.out.la;unfold jm at B;have y0:=B.cell 0;(try dsimp only at y0);clear B C)|(go_at_call 149;refine(CN.out _).mono ?_;rintro e4 w4 ⟨rfl,rfl⟩))
    (try rw[Exit.noGoto_ret]);exact bodyPost_ret (by simp[results,OE,go_sem]) rfl (nH ((p:Int)+(T:Int)) 13 D.out.be (by decide))
   rw[if_neg fW] at CN;obtain⟨⟨m,La,er⟩,hm⟩:∃z,b9 l ((p+T:Nat):Int) (x.ad+d) x=z:=⟨_,rfl⟩;have KL:= @rG l ((p+T:Nat):Int) (x.ad+d) x (by omega) (by rw[hn];have:=ja.out;omega);have CG:=O (λW (h1:Sl W A (l.map af))=>EZ A n c l ((p+T:Nat):Int) (x.ad+d) x W h1 HN.out aB.out (by have:=ja.out;have:=aB.out;omega));rw[hm] at KL CG;unfold dK at CG;have Li:=O KL;have HM:=O hm;have H3:=O (show d≠34/\d≠0/\¬33<x.ad+d from⟨dt,gy,fW⟩);have Lf:=O KH;clear N dE KG KH L9 KM fW dt gy KL hm;go_wp2_with (first|(go_at_call 148;refine cz.out.mono ?_;rintro e2 w2 ⟨rfl,C⟩;have D:=O (HS.out.below C);have B:=D.out.la;unfold jm at B;have y0:=B.cell 0;have y1:=B.cell 1;have y2:=B.cell 2;have y3:=B.cell 3;(try dsimp only at y0 y1 y2 y3);clear B C)|(go_at_call 149;refine(CN.out _).mono ?_;rintro e4 w4 ⟨rfl,rfl⟩))
   refine(CG.out _ (HA.out.below D.out.be)).mono ?_;rintro e4 w4 ⟨KX,v6,xs,Iq,KF,dY,K8⟩;obtain⟨A6,c6,Lu⟩:=aP dY;subst Lu;unfold bP at Iq;dsimp only at Iq KF dY;subst Iq;have KJ:w.heap.size<=w2.heap.size:=D.out.be.size;have KE:=D.out.below KX;have K9:ai (kW w.heap.size ⟨m,xs,A6,c6⟩) w4:=ai.cons (bX dY KJ) λr j=>by obtain⟨b,Lr,rfl⟩:=List.mem_map.1 j;exact bX (K8 b Lr) KJ
   have Ld:Hid (m.bl=xs.map (·.1)):=O KF;obtain⟨rX,K4⟩:∃rX,w4.heap.size=rX:=⟨_,rfl⟩;have M:Below w4.heap.size w4 (w4.alloc (X (bP m (U A6 (Z xs) c6)) 55)):=(Below.refl _ _).alloc (J _) _;have I:ab (w4.alloc (X (bP m (U A6 (Z xs) c6)) 55)) rX 55 (bP m (U A6 (Z xs) c6)):=aH (ab.new _ _ _) K4;have L8:(Value.slice Av (Z es) cv).ownBlock≠some rX:= λe=>by have:=(KE.rows.head.lt rX e).2;rw[K4] at this;exact Nat.lt_irrefl _ this
   have Lp:=O L8;have eE:=O (KE.below M);have K1:=O (cD K9 M);have kz:=O I;unfold bP at M I eE K1 kz;have j0:=I.cell 0;have j1:=I.cell 1;have j2:=I.cell 2;have j3:=I.cell 3;have j4:=I.cell 4;have j5:=I.cell 5;have j6:=I.cell 6;simp at j0 j1 j2 j3 j4 j5 j6;clear KX KF dY K8 KJ M I L8 KE K9 y0 y1 y2 y3
   by_cases gJ:er=0
   ·subst gJ
    obtain⟨KO,had,Lq,K5,K,K6⟩:=Li.out rfl;(try dsimp only at KO had K5 K K6);obtain⟨n2,Ls⟩:∃n2:Nat,La=(n2:Int):=⟨La.toNat,by omega⟩;subst Ls;rw[hn] at K;have Ly:OF.wrap (((p:Int)+(T:Int))+(n2:Int))=((p+T+n2:Nat):Int):=(by have:=aB.out;rw[OC];omega);have Ip:p+T+n2<=8*n:=(by omega);have jT:=O Ip;have LA:=O (show 1<=n2 by omega);have Lc:=O had;have CF:=O (λW=>Dq m A6 (Z xs) c6 f nm KO KQ.out.1 KQ.out.2 W);have Lb:=O (λW=>zU m A6 (Z xs) c6 W);unfold fI at CF;clear KO had Lq K5 K K6 Ip
    cases hU:iM f nm m with
    |false=>
     have j:=HE.out;rw[Ex HD.out (by have:=H3.out;omega) (by have:=H3.out;omega) (by have:=H3.out;omega) (by rw[OA,HM.out]) (by rw[OA,HM.out];exact hU)] at j;dsimp only at j;subst j;rw[hU] at CF;clear hU;go_wp2_with (go_at_call 44;refine(CF.out _).mono ?_;rintro e6 w6 ⟨rfl,dD⟩;have K2:=O (eE.out.below dD);clear dD)
     (try rw[Exit.noGoto_ret]);exact bodyPost_ret (by simp[results,OE,go_sem]) rfl (nH ((p:Int)+(T:Int)) 12 K2.out.be (by decide))
    |true=>
     have j:=HE.out;rw[Bk HD.out (by have:=H3.out;omega) (by have:=H3.out;omega) (by have:=H3.out;omega) (by rw[OA,HM.out]) (by rw[OA,HM.out];exact hU)] at j;rw[OA,HM.out] at j;dsimp only at j;rw[OA] at j;have Ll:=O j;rw[hU] at CF;clear hU j;go_wp2_with fail
     generalize w4.alloc (X #[Y V m.ad,Y V m.kd,Y V m.qu,Y V m.x,Y V m.y,Y V m.pa,U A6 (Z xs) c6] 55)=W5 at eE K1 kz⊢;refine(CF.out _).mono ?_;rintro e6 w6 ⟨rfl,dD⟩;have K2:=O (eE.out.below dD);have KV:=O (cD K1.out dD);have J2:=O (kz.out.below dD kz.out.lt);have aC:=J2.out;have i0:=aC.cell 0;have i1:=aC.cell 1;have i2:=aC.cell 2;have i3:=aC.cell 3;have i4:=aC.cell 4;have i5:=aC.cell 5;have i6:=aC.cell 6;simp at i0 i1 i2 i3 i4 i5 i6;have M:Below w6.heap.size w6 (w6.alloc (X (dy ⟨m,xs,A6,c6⟩).toArray 55)):=(Below.refl _ _).alloc (J _) _;have KC:=O (K2.out.below M);have Lh:=O (J2.out.below M J2.out.lt);have Lk:=O (cD KV.out M);have Lo:=O (show Sl (w6.alloc (X (dy ⟨m,xs,A6,c6⟩).toArray 55)) (some ⟨w6.heap.size,0,none⟩) (dy ⟨m,xs,A6,c6⟩) from ab.sl (ab.new w6 55 (dy ⟨m,xs,A6,c6⟩).toArray) 0);clear dD M aC K2 KV J2 eE K1 kz CF;have KR:Hid ((Z es+1)*72<=140737488355328):=O (by have:=HX.out;omega);go_wp2_with (at_builtin;refine cr Hh rfl rfl rfl KC.out.rows.head rfl (m:=1) (news:=dy ⟨m,xs,A6,c6⟩) rfl Lo.out (by intro u hu;simp only[dy,OJ,OQ,or_false] at hu;rcases hu with rfl|rfl|rfl|rfl|rfl|rfl|rfl<;>rfl) KR.out KC.out.be.size ?_;intro v9 w9 KN KI _;obtain⟨Ax,cx,Lv⟩:=aP KN;subst Lv;have Ln:=O (JL KC.out Lk.out KN KI);have bE:=Lh.out.grown KI Lp.out;have q0:=bE.cell 0;have q1:=bE.cell 1;have q2:=bE.cell 2;have q3:=bE.cell 3;have q4:=bE.cell 4;have q5:=bE.cell 5;have q6:=bE.cell 6;simp at q0 q1 q2 q3 q4 q5 q6;clear KN KI bE)
     refine(Lb.out _).mono ?_;rintro e8 w8 ⟨rfl,KY⟩;have KW:=O (Ln.out.below KY);have B:=KW.out.la;unfold jm at B;have z0:=B.cell 0;have z1:=B.cell 1;have z2:=B.cell 2;have z3:=B.cell 3;have f0:=B.frozen 0;have f1:=B.frozen 1;have f2:=B.frozen 2;have f3:=B.frozen 3;(try dsimp only at z0 z1 z2 z3 f0 f1 f2 f3);clear B KY q0 q1 q2 q3 q4 q5 q6;go_wp2_with fail
     go_roundg (8*n+1 - (p+T+n2))
     case measure=>have:=KU.out;have:=K0.out;have:=jT.out;omega
     case rel=>
      refine⟨k,p+T+n2,ed m,es++[⟨m,xs,A6,c6⟩],rfl,by have:=jT.out;omega,jT.out,O (by have:=HK.out;have:=K0.out;omega),O ?_,O (KW.out.last (ed m)),O ?_,O ?_⟩
      ·rw[Ll.out];simp
      ·rw[kC,OD,OB]
       have:=Lc.out;have:=HX.out;have:=H3.out;have:=Lf.out;omega
      ·intro y hy
       rcases ON.1 hy with hy|hy
       ·exact HQ.out y hy
       ·rw[OL] at hy
        subst hy;exact Ld.out
   ·have j:=HE.out
    rw[Ew HD.out (by have:=H3.out;omega) (by have:=H3.out;omega) (by have:=H3.out;omega) (by rw[OA,HM.out];exact gJ),OA,HM.out] at j;dsimp only at j;subst j;have Lz:=O gJ;have Le:=O (dO gJ);have CC:=O (λW=>kM er W);have LD:(er !=0)=true:=(by simpa using gJ);clear gJ;go_wp2_with (go_at_call 52;refine(CC.out _).mono ?_;rintro e3 w3 ⟨rfl,rfl⟩)
    (try rw[Exit.noGoto_ret]);exact bodyPost_ret (by simp[results,OE,go_sem]) rfl (nH ((p:Int)+(T:Int)) _ eE.out.be Le.out)
  ·have j:=HE.out
   rw[Eu HD.out wj Io] at j;dsimp only at j;subst j;have KZ:dQ e=e:=(by unfold dQ;rw[if_neg Io]);have CC:=O (λW=>kM e W);rw[KZ] at CC;have Lg:=O wj;have k2:(e==0)=false:=(by simpa using wj);clear N KZ wj Io;go_wp2_with (first|(go_at_call 148;refine cz.out.mono ?_;rintro e2 w2 ⟨rfl,C⟩;have D:=O (HS.out.below C);clear C)|(go_at_call 52;refine(CC.out _).mono ?_;rintro e3 w3 ⟨rfl,rfl⟩))
   (try rw[Exit.noGoto_ret]);exact bodyPost_ret (by simp[results,OE,go_sem]) rfl (nH (p:Int) e D.out.be Lg.out)
def ta (l:List UInt8) (p:Nat):dI×Nat×Int:=
 if (cQ l p).2.2=0 then
  if (dJ l (dv (cQ l p).1.ty) (aJ (dv (cQ l p).1.ty)) (cQ l p).2.1).2.2=0 then
   (⟨(cQ l p).1,(dJ l (dv (cQ l p).1.ty) (aJ (dv (cQ l p).1.ty)) (cQ l p).2.1).1⟩,(dJ l (dv (cQ l p).1.ty) (aJ (dv (cQ l p).1.ty)) (cQ l p).2.1).2.1,0)
  else(⟨⟨0,0,[]⟩,[]⟩,0,(dJ l (dv (cQ l p).1.ty) (aJ (dv (cQ l p).1.ty)) (cQ l p).2.1).2.2)
 else(⟨⟨0,0,[]⟩,[]⟩,0,dQ (cQ l p).2.2)
theorem II (l:List UInt8)(p:Nat):fD l p=if (dM l p 0).2=0 then ta l (dM l p 0).1 else(⟨⟨0,0,[]⟩,[]⟩,0,(dM l p 0).2):=rfl
structure ux (w:World) (h4 h10:Nat) (lr:aV) (tm ty:Int) (spv:Value) (sp:List UInt8) (v:Value) (gs:List cJ) (W:World):Prop where
 be:Below w.heap.size w W
 r4:ab W h4 35 #[Y V 0,Y V 0,U none 0 0,U none 0 0]
 sh:ab W h10 35 #[Y V tm,Y V ty,spv,v]
 lo:w.heap.size<=h4/\w.heap.size<=h10/\h4≠h10
 rows:ai (⟨w.heap.size,51,4,v,Z gs,av fb gs⟩::⟨w.heap.size,5,1,spv,Z sp,sp.map af⟩::lr::fP w.heap.size gs) W
 le:lr.e=3
theorem ux.below {w:World}{D j:Nat}{lr:aV}{tm ty:Int}{spv:Value}{sp:List UInt8}{v:Value}{gs:List cJ}{W C:World}(h:ux w D j lr tm ty spv sp v gs W)(B:Below W.heap.size W C):ux w D j lr tm ty spv sp v gs C:=
 ⟨h.be.trans (B.mono h.be.size),h.r4.below B h.r4.lt,h.sh.below B h.sh.lt,h.lo,cD h.rows B,h.le⟩
def wN (r:dI×Nat×Int) (w:World) (e:Ending) (w':World):Prop:=
 Below w.heap.size w w'/\((r.2.2=0/\∃s:bu,e=OG (OM #[iF s,Y V (r.2.1:Int),Y V 0])/\s.s=r.1/\ki s/\ai (lc w.heap.size s) w')\/(r.2.2≠0/\∃(i:Int),e=OG (OM #[.agg #[Y V 0,Y V 0,U none 0 0,U none 0 0],Y V i,Y V r.2.2])))
theorem j9 (h:Nat)(tm ty:Int)(u v:Value)(n e:Int)(tmps:Array Value)(W:World)(j:ab W h 35 #[Y V tm,Y V ty,u,v])(G:tmps.getD 4 undef=OU (some ⟨h,0,none⟩))(I:tmps.getD 5 undef=Y V n)(K:tmps.getD 6 undef=Y V e):
  (results Tryz.f53 tmps).run OP W= .ok (OM #[.agg #[Y V tm,Y V ty,u,v],Y V n,Y V e]) W:=by
 have c0:=j.cell 0;have c1:=j.cell 1;have c2:=j.cell 2;have c3:=j.cell 3;simp at c0 c1 c2 c3;have B:tmps[4]?.getD undef=OU (some ⟨h,0,none⟩):=by simpa using G
 have C:tmps[5]?.getD undef=Y V n:=by simpa using I
 have D:tmps[6]?.getD undef=Y V e:=by simpa using K
 simp[results,Tryz.results53,B,C,D,asAddr,c0,c1,c2,c3,go_sem]
theorem lQ {W:World}{h:Nat}{a b:Int}{u v:Value}(I:ab W h 35 #[Y V a,Y V b,u,v])(j B:Int)(C D:Value):
  ab ((((W.setCell ⟨h,0,none⟩ (Y V j)).setCell ⟨h,1,none⟩ (Y V B)).setCell ⟨h,2,none⟩ C).setCell ⟨h,3,none⟩ D) h 35 #[Y V j,Y V B,C,D]:=by
 have G:=(((I.set_ 0 (Y V j)).set_ 1 (Y V B)).set_ 2 C).set_ 3 D
 simpa using G
theorem AT {w W:World}{h:Nat}(B:Below w.heap.size w W)(j:w.heap.size<=h)(a b u v:Value):Below w.heap.size w ((((W.setCell ⟨h,0,none⟩ a).setCell ⟨h,1,none⟩ b).setCell ⟨h,2,none⟩ u).setCell ⟨h,3,none⟩ v):=
 (((B.setCell (p:=⟨h,0,none⟩) j _).setCell (p:=⟨h,1,none⟩) j _).setCell (p:=⟨h,2,none⟩) j _).setCell (p:=⟨h,3,none⟩) j _
theorem nJ {w:World}{C:dI}{q:Nat}{W:World}{h:Nat}(i e:Int)(j:Below w.heap.size w W)(B:w.heap.size<=h)(he:e≠0):wN (C,q,e) w (OG (OM #[.agg #[Y V 0,Y V 0,U none 0 0,U none 0 0],Y V i,Y V e])) ((((W.setCell ⟨h,0,none⟩ (Y V 0)).setCell ⟨h,1,none⟩ (Y V 0)).setCell ⟨h,2,none⟩ (U none 0 0)).setCell ⟨h,3,none⟩ (U none 0 0)):=
 ⟨AT j B _ _ _ _,.inr ⟨he,i,rfl⟩⟩
theorem JN {w:World}{h4 C:Nat}{lr:aV}{tm ty:Int}{spv:Value}{sp:List UInt8}{v:Value}{gs:List cJ}{W M:World}{G:cJ}{v':Value}(h:ux w h4 C lr tm ty spv sp v gs W)(hG:ai (mg w.heap.size G) W)(ho:M.ownsRow w.heap.size 51 4 v' (Z gs+1) (av fb gs++fb G))(hg:W.grownBy M v.ownBlock):
  ab M C 35 #[Y V tm,Y V ty,spv,v]/\ux w h4 C lr tm ty spv sp v' (gs++[G]) (M.setCell ⟨C,3,none⟩ v'):=by
 have j:=h.rows.head;dsimp only at j;have aC:(gs++[G]).length=Z gs+1:=by rw[OD,OB]
 have hk:∀R:List aV,ai R W->(∀r∈R,r.e≠51)->ai R M:= λR hR bE r B=>(hR r B).kept hg (ji j (hR r B) (Ne.symm (bE r B)));have T:fP w.heap.size (gs++[G])=fP w.heap.size gs++mg w.heap.size G:=by unfold fP;rw[OK];simp
 have cz:ai (mg w.heap.size G) M:=hk _ hG (by
  intro r B;unfold mg at B;rcases OJ.1 B with rfl|B
  ·dsimp only;decide
  ·exact lN (by decide) (by decide) (by decide) r B)
 have N:=hk _ h.rows.tail (by
  intro r B;rcases OJ.1 B with rfl|B
  ·dsimp only;decide
  rcases OJ.1 B with rfl|B
  ·rw[h.le];decide
  ·rcases qt r B with h|h|h|h<;>rw[h]<;>decide)
 have K:ai (⟨w.heap.size,51,4,v',(gs++[G]).length,av fb (gs++[G])⟩::⟨w.heap.size,5,1,spv,Z sp,sp.map af⟩::lr::fP w.heap.size (gs++[G])) M:=by
  refine ai.cons ?_ (ai.cons N.head (ai.cons N.tail.head ?_))
  ·rw[aC,eo,dV]
   exact ho
  ·rw[T]
   exact N.tail.tail.app cz
 have I:=h.sh.grown hg (ba j h.sh (by decide));have aB:=h.r4.grown hg (ba j h.r4 (by decide));have D:=I.set_ 3 v';simp only[List.setIfInBounds_toArray,List.set_cons_zero,List.set_cons_succ] at D;exact⟨I,(eF h.be j hg h.be.size (J _)).setCell (p:=⟨C,3,none⟩) h.lo.2.1 _,aB.far (p:=⟨C,3,none⟩) h.lo.2.2 _,D,h.lo,br K I (qc h.le (by decide) (by decide) (by decide) (by decide) (by decide) (by decide)) 3 _,h.le⟩
theorem Dr (A:Option Addr)(n c:Nat)(l:List UInt8)(p1:Nat)(w:World)(hA:Sl w A (l.map af))(hn:Z l=n)(hsz:n<=2 ^ 40)(hp:p1<=8*n):
  Calls OP 53 #[U A n c,Y V (p1:Int)] w (wN (ta l p1) w):=by
 have HA:=O hA;have HN:=O hn;have Iq:=O hsz;have Mh:=O hp;obtain⟨r,I⟩:∃r,ta l p1=r:=⟨_,rfl⟩;rw[I];unfold ta at I;obtain⟨h4,KL⟩:∃h4,w.heap.size=h4:=⟨_,rfl⟩;have Li:Below w.heap.size w (w.alloc (X #[Y V 0,Y V 0,U none 0 0,U none 0 0] 35)):=(Below.refl _ _).alloc (J _) _;have L6:ab (w.alloc (X #[Y V 0,Y V 0,U none 0 0,U none 0 0] 35)) h4 35 #[Y V 0,Y V 0,U none 0 0,U none 0 0]:=aH (ab.new _ _ _) KL;have CG:=O (EX A n c l p1 _ (hA.below Li) hn hsz hp);have K:= @ry l p1;obtain⟨⟨⟨tm,ty,sp⟩,p2,e2⟩,hh⟩:∃z,cQ l p1=z:=⟨_,rfl⟩;rw[hh] at CG K I;unfold AJ cT at CG;dsimp only at I K CG;have KE:=O Li;have dY:=O L6;have Mg:=O KL;have gJ:Hid (w.heap.size<=h4):=O (by omega);clear hA Li L6 hh hp
 go_enter Tryz.func53,Tryz.ntmps53
 go_wp2_with fail
 (try rw[KL]);clear KL;refine CG.out.mono ?_;rintro e w1 ⟨v6,rfl,KK,bE⟩;obtain⟨N,T,KW⟩:=aP bE;subst KW;have wj:=KE.out.trans (KK.mono KE.out.size);obtain⟨h7,Ll⟩:∃h7,w1.heap.size=h7:=⟨_,rfl⟩;have Lj:Below w1.heap.size w1 (w1.alloc (X #[Y V tm,Y V ty,U N (Z sp) T] 32)):=(Below.refl _ _).alloc (J _) _;have KF:=O (wj.trans (Lj.mono wj.size));have KI:=O ((dY.out.below KK dY.out.lt).alloc (X #[Y V tm,Y V ty,U N (Z sp) T] 32));have LD:=O (cC (bX bE KE.out.size) Lj (J _));have Ld:Hid (ab (w1.alloc (X #[Y V tm,Y V ty,U N (Z sp) T] 32)) h7 32 #[Y V tm,Y V ty,U N (Z sp) T]):=O (aH (ab.new _ _ _) Ll);have KN:=Ld.out;have dE:=KI.out;have j0:=KN.cell 0;have j1:=KN.cell 1;have j2:=KN.cell 2;have k0:=dE.cell 0;have k1:=dE.cell 1;have k2:=dE.cell 2;have k3:=dE.cell 3;have f0:=dE.frozen 0;have f1:=dE.frozen 1;have f2:=dE.frozen 2;have f3:=dE.frozen 3;simp at j0 j1 j2 k0 k1 k2 k3;have LX:Hid (h4<w1.heap.size):=O (dY.out.below KK dY.out.lt).lt;have Lz:=O wj;have KG:=O Ll;clear KK bE CG dY KE Lj KN dE wj Ll;have CC:=O (λ(e:Int) W=>kM e W)
 by_cases M:e2=0
 case neg=>
  rw[if_neg M] at I;subst I;have K0:=O (dO M);have M9:(e2 !=0)=true:=(by simpa using M);generalize dR (p2,e2) p1=mm;clear M;go_wp2_with (go_at_call 52;refine(CC.out _ _).mono ?_;rintro e3 w3 ⟨rfl,rfl⟩)
  exact bodyPost_ret (j9 h4 0 0 (U none 0 0) (U none 0 0) (p1:Int) (dQ e2) _ _ (lQ KI.out 0 0 (U none 0 0) (U none 0 0)) rfl rfl rfl) rfl (nJ (p1:Int) _ KF.out gJ.out K0.out)
 subst M;rw[if_pos rfl] at I;obtain⟨K2,L5,KQ⟩:=K rfl;(try dsimp only at K2 L5 KQ);rw[hn] at KQ
 have LQ:0<=ty/\ty<=63:=by
  simp only[sH,Bool.and_eq_true,decide_eq_true_eq] at K2;omega
 have K8:dR (p2,0) p1=(p2:Int) - (p1:Int):=by unfold dR;rw[if_pos rfl]
 rw[K8];have Ml:OF.wrap ((p1:Int)+((p2:Int) - (p1:Int)))=(p2:Int):=by have:=Iq.out;rw[OC];omega
 obtain⟨f,hf⟩:∃f,dv ty=f:=⟨_,rfl⟩;rw[hf] at I;have K4:f=0\/f=1:=by rw[<-hf];unfold dv;omega
 have LC:=O I;have Lt:=O K4;have M0:=O KQ;have L9:=O (λW=>yq tm ty N (Z sp) T LQ W);have La:=O (λW=>pU f K4 W);unfold tI at La;rw[hf] at L9;clear I K2 L5 K8 K4 KQ K LQ hf;go_wp2_with fail
 obtain⟨J2,K6⟩:∃J2,h7+1=J2:=⟨_,rfl⟩;(try rw[KG.out]);(try rw[K6]);have K1:Below (w1.alloc (X #[Y V tm,Y V ty,U N (Z sp) T] 32)).heap.size (w1.alloc (X #[Y V tm,Y V ty,U N (Z sp) T] 32)) ((w1.alloc (X #[Y V tm,Y V ty,U N (Z sp) T] 32)).alloc (X #[Y V tm,Y V ty,U N (Z sp) T,U none 0 0] 35)):=(Below.refl _ _).alloc (J _) _;have L8:(w1.alloc (X #[Y V tm,Y V ty,U N (Z sp) T] 32)).heap.size=J2:=by rw[OR,KG.out];exact K6
 have LP:ux w h4 J2 ⟨w.heap.size,3,1,U none 0 0,0,[]⟩ tm ty (U N (Z sp) T) sp (U none 0 0) [] ((w1.alloc (X #[Y V tm,Y V ty,U N (Z sp) T] 32)).alloc (X #[Y V tm,Y V ty,U N (Z sp) T,U none 0 0] 35)):=
  ⟨KF.out.trans (K1.mono KF.out.size),KI.out.alloc _,aH (ab.new _ _ _) L8,⟨gJ.out,by have:=Lz.out.size;have:=KG.out;omega,by have:=LX.out;have:=KG.out;omega⟩,ai.cons (OI _ _ _ _) (ai.cons (cC LD.out K1 (J _)) (ai.cons (OI _ _ _ _) (aA _))),rfl⟩
 have Lh:=O LP;have KH:=O (Ld.out.alloc (X #[Y V tm,Y V ty,U N (Z sp) T,U none 0 0] 35));clear LP K1 L8 K6 j0 j1 j2 k0 k1 k2 k3 f0 f1 f2 f3 Ld LD KI KF;generalize (w1.alloc (X #[Y V tm,Y V ty,U N (Z sp) T] 32)).alloc (X #[Y V tm,Y V ty,U N (Z sp) T,U none 0 0] 35)=W3 at Lh KH⊢;refine(L9.out _).mono ?_;rintro e6 w6 ⟨rfl,LH⟩;have Lf:=O (Lh.out.below LH);clear LH Lh KH;go_wp2_with fail
 refine(La.out _).mono ?_;rintro e7 w7 ⟨Al,cl,rfl,LN,eE⟩;have ja:=O (Lf.out.below eE);have LA:=O (bX LN Lf.out.be.size);clear LN eE Lf L9 La;obtain⟨L,hL⟩:∃L,(aJ f).length=L:=⟨_,rfl⟩
 have L7:ux w h4 J2 ⟨w.heap.size,3,1,U Al L cl,L,(aJ f).map aE⟩ tm ty (U N (Z sp) T) sp (U none 0 0) [] w7:=
  ⟨ja.out.be,ja.out.r4,ja.out.sh,ja.out.lo,ai.cons ja.out.rows.head (ai.cons ja.out.rows.tail.head (ai.cons (by have h:=LA.out;rw[hL] at h;exact h) (aA _))),rfl⟩
 have M6:=O L7;have HL:=O hL;have KZ:L<=12:=by rw[<-hL];exact iw f
 have KY:=O KZ;rw[hL];clear L7 ja LA hL KZ;go_wp2_with fail
 go_loopg [1,14] L (λgk a i=> λwr=>∃(j q:Nat)(gs:List cJ)(v:Value),a=Y V (q:Int)/\j+gk=L/\i=Y V (j:Int)/\q<=8*n/\Z gs=j/\Hid (ux w h4 J2 ⟨w.heap.size,3,1,U Al L cl,L,(aJ f).map aE⟩ tm ty (U N (Z sp) T) sp v gs wr)/\
  Hid (dJ l f (aJ f) p2=(gs.map (·.g)++(dJ l f ((aJ f).drop j) q).1,(dJ l f ((aJ f).drop j) q).2.1,(dJ l f ((aJ f).drop j) q).2.2))/\Hid (∀x∈gs,rZ x))
 case atStart=>exact⟨0,p2,[],U none 0 0,rfl,by omega,rfl,M0.out,rfl,M6,O rfl,O (λx hx=>by cases hx)⟩
 case round=>
  obtain⟨j,q,gs,v,rfl,hj,rfl,KU,LL,D,Lb,Lu⟩:=hrel;have Lw:=O LL;clear LL;obtain⟨Av,cv,hv⟩:=aP D.out.rows.head;dsimp only at hv;subst hv;have C:=D.out.r4;have k0:=C.cell 0;have k1:=C.cell 1;have k2:=C.cell 2;have k3:=C.cell 3;have f0:=C.frozen 0;have f1:=C.frozen 1;have f2:=C.frozen 2;have f3:=C.frozen 3;(try dsimp only at k0 k1 k2 k3 f0 f1 f2 f3);clear C
  cases gk with
  |zero=>
   have LM:j=L:=(by omega);have Mb:¬((j:Int)<(L:Int)):=(by omega);have aC:=Lb.out;rw[LM,List.drop_of_length_le (by rw[HL.out];exact J _)] at aC;have I:=LC.out;rw[aC] at I;simp only[dJ,List.append_nil] at I;simp only[if_true] at I;have Le:=O I;have Kr:=D.out.sh;have i0:=Kr.cell 0;have i1:=Kr.cell 1;have i2:=Kr.cell 2;have i3:=Kr.cell 3;(try dsimp only at i0 i1 i2 i3);clear I aC Kr hj LM;go_wp2_with fail
   have hR:=qc (B:=w.heap.size) (v:=U Av (Z gs) cv) (spv:=U N (Z sp) T) (sp:=sp) (lr:=⟨w.heap.size,3,1,U Al L cl,L,(aJ f).map aE⟩) (gs:=gs) (t:=35) rfl (by decide) (by decide) (by decide) (by decide) (by decide) (by decide);have b1:=D.out.r4.set_ 0 (Y V tm);have b2:=b1.set_ 1 (Y V ty);have b3:=b2.set_ 2 (U N (Z sp) T);have kz:=br (br (br (br D.out.rows D.out.r4 hR 0 (Y V tm)) b1 hR 1 (Y V ty)) b2 hR 2 (U N (Z sp) T)) b3 hR 3 (U Av (Z gs) cv);refine bodyPost_ret (j9 h4 tm ty (U N (Z sp) T) (U Av (Z gs) cv) (q:Int) 0 _ _ (lQ D.out.r4 tm ty (U N (Z sp) T) (U Av (Z gs) cv)) rfl rfl rfl) rfl ⟨AT D.out.be gJ.out _ _ _ _,.inl ⟨by rw[<-Le.out],⟨tm,ty,sp,N,T,gs,Av,cv⟩,by rw[<-Le.out];rfl,by rw[<-Le.out];rfl,Lu.out,?_⟩⟩;exact ai.cons kz.tail.head (ai.cons kz.head kz.tail.tail.tail)
  |succ gk=>
   have Mb:((j:Int)<(L:Int)):=(by omega);have Mi:¬((j:Int)<0):=(by omega);have KM:j<(aJ f).length:=(by rw[HL.out];omega);obtain⟨nm,KO⟩:∃x,(aJ f)[j]=x:=⟨_,rfl⟩;have L4:nm∈aJ f:=(by rw[<-KO];exact List.getElem_mem KM);obtain⟨ad,rfl,_,hc⟩:=(fM D.out.rows.tail.tail.head).int j KM;rw[KO] at hc;have K3:(aJ f).drop j=nm::(aJ f).drop (j+1):=(by rw[<-KO];exact List.drop_eq_getElem_cons KM);have aC:=Lb.out;rw[K3,dJ] at aC;dsimp only at aC;have Lq:=O aC;have CS:=O (qX A n c l q wr (HA.out.below D.out.be) HN.out Iq.out KU);have KV:= @kO l q;obtain⟨⟨num,en,er⟩,hs⟩:∃z,cV l q=z:=⟨_,rfl⟩;unfold jp qe at CS;rw[hs] at CS KV;dsimp only at CS KV;have KC:dM l q nm=if er=0 then(if num=nm then(en,0) else(0,8)) else(0,dQ er):=by unfold dM;rw[hs]
   have HW:=O KC;have LZ:=O L4;have HJ:=O hj;have Mk:OF.wrap ((j:Int)+1)=(j:Int)+1:=by have:=KY.out;rw[OC];omega
   have rX:Hid (∀e:Int,e≠0->(eK l f nm q).2.2=e->r=(⟨⟨0,0,[]⟩,[]⟩,0,e)):=O (λe he hg=>by
    have I:=LC.out;rw[Lq.out,hg,if_neg he] at I;dsimp only at I;rw[if_neg he] at I;exact I.symm)
   clear hj KM KO K3 aC hs KC L4 Lb
   by_cases dD:er=0
   case neg=>
    have gy:(eK l f nm q).2.2=dQ er:=(by unfold eK;rw[HW.out,if_neg dD];dsimp only;rw[if_neg (dO dD)]);have I:=rX.out _ (dO dD) gy;subst I;have K0:=O (dO dD);have M9:(er==0)=false:=(by simpa using dD);have LI:(er !=0)=true:=(by simpa using dD);rw[if_neg dD] at CS;clear gy dD KV KU;go_wp2_with (first|(go_at_call 51;refine CS.out.mono ?_;rintro e2 w2 ⟨rfl,rfl⟩)|(go_at_call 52;refine(CC.out _ _).mono ?_;rintro e3 w3 ⟨rfl,rfl⟩))
    (try rw[Exit.noGoto_ret]);exact bodyPost_ret (j9 h4 0 0 (U none 0 0) (U none 0 0) ((q:Int)) (dQ er) _ _ (lQ D.out.r4 0 0 (U none 0 0) (U none 0 0)) rfl rfl rfl) rfl (nJ ((q:Int)) _ D.out.be gJ.out K0.out)
   subst dD;rw[if_pos rfl] at CS;obtain⟨K9,fW,_,_⟩:=KV rfl;(try dsimp only at K9 fW);rw[hn] at fW;have Lr:=O fW;have Mj:OF.wrap ((q:Int)+((en:Int) - (q:Int)))=(en:Int):=by have:=Iq.out;rw[OC];omega
   by_cases Io:num=nm
   case neg=>
    have gy:(eK l f nm q).2.2=8:=(by unfold eK;rw[HW.out,if_pos rfl,if_neg Io];rfl);have I:=rX.out _ (by decide) gy;subst I;have Mc:(num !=nm)=true:=(by simpa using Io);clear gy Io K9 KU fW;go_wp2_with (first|(go_at_call 51;refine CS.out.mono ?_;rintro e2 w2 ⟨rfl,rfl⟩)|(go_at_call 52;refine(CC.out _ _).mono ?_;rintro e3 w3 ⟨rfl,rfl⟩))
    (try rw[Exit.noGoto_ret]);exact bodyPost_ret (j9 h4 0 0 (U none 0 0) (U none 0 0) ((q:Int)) (8) _ _ (lQ D.out.r4 0 0 (U none 0 0) (U none 0 0)) rfl rfl rfl) rfl (nJ ((q:Int)) _ D.out.be gJ.out (by decide))
   subst Io;have Mc:(num !=num)=false:=(by simp);have LT:dM l q num=(en,0):=(by rw[HW.out,if_pos rfl,if_pos rfl]);have LF:=O LT;obtain⟨⟨⟨qu,cz⟩,q2,e2⟩,hh⟩:∃z,fa l en=z:=⟨_,rfl⟩;have CG:=O (λW (h:Sl W A (l.map af))=>EY A n c l en W h HN.out Iq.out Lr.out);have K:= @rx l en;rw[hh] at CG K;unfold rY at CG;have Ly:=O hh;have Lc:=O K;clear LT hh K K9 KU fW HW;go_wp2_with (go_at_call 51;refine CS.out.mono ?_;rintro e1 w2 ⟨rfl,rfl⟩)
   refine(CG.out _ (HA.out.below D.out.be)).mono ?_;rintro e4 w4 ⟨v6,rfl,LG,bE⟩;obtain⟨As,cs,KW⟩:=aP bE;(try dsimp only at KW);subst KW;have hU:=O (D.out.below LG);have LE:=O (bX bE D.out.be.size);clear LG bE CS CG k0 k1 k2 k3 f0 f1 f2 f3 hc;have C:=hU.out.r4;have k0:=C.cell 0;have k1:=C.cell 1;have k2:=C.cell 2;have k3:=C.cell 3;have f0:=C.frozen 0;have f1:=C.frozen 1;have f2:=C.frozen 2;have f3:=C.frozen 3;(try dsimp only at k0 k1 k2 k3 f0 f1 f2 f3);clear C
   by_cases M:e2=0
   case neg=>
    have gy:(eK l f num q).2.2=dQ e2:=by
     unfold eK;rw[LF.out];dsimp only;rw[if_pos rfl,Ly.out];dsimp only;rw[if_neg M]
    have I:=rX.out (dQ e2) (dO M) gy;subst I;have K0:=O (dO M);have LI:(e2 !=0)=true:=(by simpa using M);generalize dR (q2,e2) en=mm;clear M gy;go_wp2_with (go_at_call 52;refine(CC.out _ _).mono ?_;rintro e3 w3 ⟨rfl,rfl⟩)
    (try rw[Exit.noGoto_ret]);exact bodyPost_ret (j9 h4 0 0 (U none 0 0) (U none 0 0) ((en:Int)) (dQ e2) _ _ (lQ hU.out.r4 0 0 (U none 0 0) (U none 0 0)) rfl rfl rfl) rfl (nJ ((en:Int)) _ hU.out.be gJ.out K0.out)
   subst M;have KR:=(Lc.out rfl).2.2.2.2;(try dsimp only at KR);rw[hn] at KR;have LB:=O KR;have K8:dR (q2,0) en=(q2:Int) - (en:Int):=(by unfold dR;rw[if_pos rfl]);rw[K8];have Mf:OF.wrap ((en:Int)+((q2:Int) - (en:Int)))=(q2:Int):=(by have:=Iq.out;rw[OC];omega);have CM:=O (yt A n c l q2 f num w4 (HA.out.below hU.out.be) HN.out Iq.out LB.out Lt.out LZ.out);obtain⟨⟨ml,q3,e3⟩,Lm⟩:∃z,bL l f num (8*Z l+1) q2 co=z:=⟨_,rfl⟩;have jT:= @mh l f num (8*Z l+1) q2 co (by rw[hn];exact LB.out) (by decide);rw[Lm] at CM jT;unfold r7 at CM;have KH:=O Lm;have Lx:=O jT
   have L0:eK l f num q=if e3=0 then(⟨num,qu,cz,ml⟩,q3,0) else(⟨0,0,[],[]⟩,0,e3):=by
    unfold eK;rw[LF.out];dsimp only;rw[if_pos rfl,Ly.out];dsimp only;rw[if_pos rfl,KH.out]
   have KX:=O L0;clear Lm jT L0 K8 KR;go_wp2_with fail
   refine CM.out.mono ?_;rintro e7 w7 ⟨eE,(⟨dt,mv,es,rfl,Ln,aC,aB⟩|⟨dt,i7,rfl⟩)⟩
   case inr=>
    (try dsimp only at dt);have I:=rX.out e3 dt (by rw[KX.out,if_neg dt]);subst I;have Ip:=O (hU.out.below eE);have LV:=O dt;have Me:(e3 !=0)=true:=(by simpa using dt);clear eE dt k0 k1 k2 k3 f0 f1 f2 f3 CM;have C:=Ip.out.r4;have k0:=C.cell 0;have k1:=C.cell 1;have k2:=C.cell 2;have k3:=C.cell 3;have f0:=C.frozen 0;have f1:=C.frozen 1;have f2:=C.frozen 2;have f3:=C.frozen 3;(try dsimp only at k0 k1 k2 k3 f0 f1 f2 f3);clear C;go_wp2_with fail
    (try rw[Exit.noGoto_ret]);exact bodyPost_ret (j9 h4 0 0 (U none 0 0) (U none 0 0) ((en:Int)) (e3) _ _ (lQ Ip.out.r4 0 0 (U none 0 0) (U none 0 0)) rfl rfl rfl) rfl (nJ ((en:Int)) _ Ip.out.be gJ.out LV.out)
   (try dsimp only at dt Ln);subst dt;have KT:=(Lx.out rfl).2.2;(try dsimp only at KT);rw[hn] at KT;obtain⟨Am,cm,LR⟩:=aP aB.head;dsimp only at LR;subst LR;have K5:=hU.out.be.size;have Ip:=O (hU.out.below eE);obtain⟨G,hG⟩:∃G:cJ,(⟨num,qu,cz,As,cs,es,Am,cm⟩:cJ)=G:=⟨_,rfl⟩
   have LO:ai (mg w.heap.size G) w7:=by
    rw[<-hG];exact ai.cons (cC LE.out eE (J _)) (ai.cons (bX aB.head K5) (pY aB.tail K5))
   have LK:fb G=[Y V num,Y V qu,U As (Z cz) cs,U Am (Z es) cm]:=(by rw[<-hG];rfl);have LW:=O LK;have Lv:=O hG;have Ls:=O aC;have LY:=O Ln;have M4:=O KT;have Lk:Below w7.heap.size w7 (w7.alloc (X #[Y V num,Y V qu,U As (Z cz) cs,U Am (Z es) cm] 51)):=(Below.refl _ _).alloc (J _) _;have Lg:=O (Ip.out.below Lk);have M5:=O (cD LO Lk);have Lp:Hid ((Z gs+1)*64<=140737488355328):=O (by have:=Lw.out;have:=KY.out;have:=HJ.out;omega);have M7:=O (show Sl (w7.alloc (X #[Y V num,Y V qu,U As (Z cz) cs,U Am (Z es) cm] 51)) (some ⟨w7.heap.size,0,none⟩) [Y V num,Y V qu,U As (Z cz) cs,U Am (Z es) cm] from ab.sl (ab.new w7 51 #[Y V num,Y V qu,U As (Z cz) cs,U Am (Z es) cm]) 0);have i3:=Ip.out.sh.cell 3;(try dsimp only at i3);clear eE aB Ln aC KT K5 CM LO LK hG Lk k0 k1 k2 k3 f0 f1 f2 f3;go_wp2_with (at_builtin;refine cr Hg rfl rfl rfl Lg.out.rows.head rfl (m:=1) (news:=[Y V num,Y V qu,U As (Z cz) cs,U Am (Z es) cm]) rfl M7.out (by intro u hu;simp only[OJ,OQ,or_false] at hu;rcases hu with rfl|rfl|rfl|rfl<;>rfl) Lp.out Lg.out.be.size ?_;intro v9 w9 Lo LJ _;obtain⟨Ax,cx,Md⟩:=aP Lo;subst Md;have KJ:=JN Lg.out M5.out (by rw[LW.out];exact Lo) LJ;have LU:=O KJ;have x3:=KJ.1.cell 3;have y3:=KJ.1.frozen 3;(try dsimp only at x3 y3);clear Lo LJ KJ)
   go_roundg gk
   case measure=>omega
   case rel=>
    have Ma:(gs++[G]).length=Z gs+1:=(by rw[OD,OB]);refine⟨j+1,q3,gs++[G],U Ax (Z gs+1) cx,rfl,by have:=HJ.out;omega,rfl,M4.out,by rw[Ma,Lw.out],O LU.out.2,O ?_,O ?_⟩
    ·have M8:eK l f num q=(⟨num,qu,cz,ml⟩,q3,0):=by
      have h:=KX.out
      simpa using h
     rw[Lq.out,M8]
     dsimp only
     rw[if_pos rfl,OS,OO,<-Lv.out]
     unfold cJ.g
     dsimp only
     rw[LY.out]
     simp
    ·intro y hy
     rcases ON.1 hy with hy|hy
     ·exact Lu.out y hy
     ·rw[OL] at hy
      subst hy;rw[<-Lv.out];exact Ls.out
structure uw (w:World) (v:Value) (ss:List bu) (W:World):Prop where
 be:Below w.heap.size w W
 rows:ai (⟨w.heap.size,35,4,v,Z ss,av dS ss⟩::gY w.heap.size ss) W
theorem uw.below {w:World}{v:Value}{ss:List bu}{W j:World}(h:uw w v ss W)(B:Below W.heap.size W j):uw w v ss j:=⟨h.be.trans (B.mono h.be.size),cD h.rows B⟩
theorem JM {w:World}{v:Value}{ss:List bu}{W C:World}{s:bu}{N:Value}(h:uw w v ss W)(hs:ai (lc w.heap.size s) W)(T:C.ownsRow w.heap.size 35 4 N (Z ss+1) (av dS ss++dS s))(K:W.grownBy C v.ownBlock):uw w N (ss++[s]) C:=by
 have j:=h.rows.head;dsimp only at j;have D:(ss++[s]).length=Z ss+1:=by rw[OD,OB]
 have M:∀R:List aV,ai R W->(∀r∈R,r.e≠35)->ai R C:= λR I G r B=>(I r B).kept K (ji j (I r B) (Ne.symm (G r B)));have h2:gY w.heap.size (ss++[s])=gY w.heap.size ss++lc w.heap.size s:=by unfold gY;rw[OK];simp
 refine⟨eF h.be j K h.be.size (J _),ai.cons ?_ ?_⟩
 ·rw[D,eo,dV]
  exact T
 ·rw[h2]
  refine(M _ h.rows.tail ?_).app (M _ hs ?_)
  ·intro r B
   rcases qD r B with h|h|h|h|h<;>rw[h]<;>decide
  ·intro r B
   have:r∈gY w.heap.size [s]:=(by unfold gY;simpa using B);rcases qD r this with h|h|h|h|h<;>rw[h]<;>decide
theorem nI {w:World}{j:Option Addr}{cs:Nat}{ss:List bu}{W:World}{r:List dI×Int}{e:Int}(h:uw w (U j (Z ss) cs) ss W)(C:ss.map (·.s)=r.1)(he:r.2=e)(B:∀s∈ss,ki s):nu r w (OG (OM #[U j (Z ss) cs,Y V e])) W:=
 ⟨j,cs,ss,by rw[he],C,B,h.be,h.rows⟩
theorem zW (A:Option Addr)(n c:Nat)(l:List UInt8)(w:World)(hA:Sl w A (l.map af))(hn:Z l=n)(hsz:n<=2 ^ 40):
  Calls OP 20 #[U A n c] w (nu (eN l) w):=by
 have HA:=O hA;have HN:=O hn;have N:=O hsz;obtain⟨r,j⟩:∃r,eN l=r:=⟨_,rfl⟩;rw[j];have C0:=O (zV A n c l w hA hn hsz);have ja:Hid (uw w (U none 0 0) [] w):=O ⟨Below.refl _ _,ai.cons (OI _ _ _ _) (aA _)⟩;have CC:=O (λ(e:Int) W=>kM e W);unfold eN at j;clear hA hn
 go_enter Tryz.func20,Tryz.ntmps20
 go_wp2_with fail
 refine C0.out.mono ?_;rintro e w1 ⟨rfl,(⟨hf,rfl⟩|⟨q,hf,gJ,rfl⟩)⟩
 ·rw[hf] at j
  have HR:=O j;clear hf j;go_wp2_with fail
  exact bodyPost_ret (by simp[results,OH,go_sem]) rfl (nI (ss:=[]) (e:=0) ja.out (by rw[<-HR.out];rfl) (by rw[<-HR.out]) (λs hs=>by cases hs))
 rw[hf] at j;dsimp only at j;rw[HN.out] at gJ;have K6:=O j;have kz:=O gJ;clear hf j gJ;go_wp2_with fail
 go_loopg [4,6] (8*n+1 - q) (λgk a v=> λwr=>∃(k p:Nat)(ss:List bu),a=Y V (p:Int)/\p+gk=8*n+1/\p<=8*n/\Hid (8*n<p+k)/\Hid (r=(ss.map (·.s)++(gH l k p).1,(gH l k p).2))/\Hid (uw w v ss wr)/\Hid (20*Z ss<=p)/\Hid (∀s∈ss,ki s))
 case atStart=>exact⟨8*Z l+1,q,[],rfl,by have:=kz.out;omega,kz.out,O (by have:=HN.out;omega),O (by rw[K6.out];rfl),ja,O (Nat.zero_le _),O (λm hm=>by cases hm)⟩
 case round=>
  obtain⟨k,p,ss,rfl,K0,I,HK,HE,HS,HX,HQ⟩:=hrel;obtain⟨k,rfl⟩:∃k',k=k'+1:=⟨k - 1,by have:=HK.out;omega⟩;obtain⟨Av,cv,hv⟩:=aP HS.out.rows.head;dsimp only at hv;subst hv;have CO:=O (oX A n c l p wr (HA.out.below HS.out.be) HN.out N.out I)
  cases ho:dB l p with
  |true=>
   have j:=HE.out;rw[gH,if_pos ho] at j;rw[ho] at CO;have C:=O j;clear ho j I;go_wp2_with (go_at_call 50;refine CO.out.mono ?_;rintro e3 w3 ⟨rfl,rfl⟩)
   exact bodyPost_ret (by simp[results,OH,go_sem]) rfl (nI (e:=0) HS.out (by rw[C.out];simp) (by rw[C.out]) HQ.out)
  |false=>
   have j:=HE.out;rw[gH,if_neg (by rw[ho];decide)] at j;rw[ho] at CO;dsimp only at j;have B:= @tc l p;rw[II] at j B;have CS:=O (qX A n c l p wr (HA.out.below HS.out.be) HN.out N.out I);have M:= @kO l p;obtain⟨⟨num,en,er⟩,hs⟩:∃z,cV l p=z:=⟨_,rfl⟩;unfold jp qe at CS;rw[hs] at CS M;dsimp only at CS M;have cz:dM l p 0=if er=0 then(if num=0 then(en,0) else(0,8)) else(0,dQ er):=by unfold dM;rw[hs]
   rw[cz] at j B;have K4:=O K0;clear ho hs cz K0
   by_cases G:er=0
   case neg=>
    rw[if_neg G] at j CS;dsimp only at j;rw[if_neg (dO G)] at j;dsimp only at j;rw[if_neg (dO G)] at j;have C:=O j;have KF:(er==0)=false:=(by simpa using G);have Ip:(er !=0)=true:=(by simpa using G);clear j B G M I;go_wp2_with (first|(go_at_call 50;refine CO.out.mono ?_;rintro e3 w3 ⟨rfl,rfl⟩)|(go_at_call 51;refine CS.out.mono ?_;rintro e3 w3 ⟨rfl,rfl⟩)|(go_at_call 52;refine(CC.out _ _).mono ?_;rintro e3 w3 ⟨rfl,rfl⟩))
    (try rw[Exit.noGoto_ret]);exact bodyPost_ret (by simp[results,OH,go_sem]) rfl (nI (e:=dQ er) HS.out (by rw[C.out];simp) (by rw[C.out]) HQ.out)
   subst G;rw[if_pos rfl] at j CS B;obtain⟨aC,D,_,_⟩:=M rfl;(try dsimp only at aC D);rw[HN.out] at D;have KH:OF.wrap ((p:Int)+((en:Int) - (p:Int)))=(en:Int):=by have:=N.out;rw[OC];omega
   by_cases K:num=0
   case neg=>
    rw[if_neg K] at j;have C:Hid (r=(ss.map (·.s)++[],8)):=O (by rw[j];rfl);have KG:(num !=0)=true:=(by simpa using K);clear j B K I aC D M;go_wp2_with (first|(go_at_call 50;refine CO.out.mono ?_;rintro e3 w3 ⟨rfl,rfl⟩)|(go_at_call 51;refine CS.out.mono ?_;rintro e3 w3 ⟨rfl,rfl⟩)|(go_at_call 52;refine(CC.out _ _).mono ?_;rintro e3 w3 ⟨rfl,rfl⟩))
    (try rw[Exit.noGoto_ret]);exact bodyPost_ret (by simp[results,OH,go_sem]) rfl (nI (e:=dQ 8) HS.out (by rw[C.out];simp) (by rw[C.out];rfl) HQ.out)
   subst K;rw[if_pos rfl] at j B;dsimp only at j B;rw[if_pos rfl] at j B;have CH:=O (Dr A n c l en wr (HA.out.below HS.out.be) HN.out N.out D);obtain⟨⟨sm,p2,e2⟩,hh⟩:∃z,ta l en=z:=⟨_,rfl⟩;rw[hh] at j B CH;unfold wN at CH;dsimp only at j B;have C:=O j;have K9:=O B;have K3:=O I;clear j B hh I aC D M;go_wp2_with (first|(go_at_call 50;refine CO.out.mono ?_;rintro e3 w3 ⟨rfl,rfl⟩)|(go_at_call 51;refine CS.out.mono ?_;rintro e3 w3 ⟨rfl,rfl⟩))
   refine CH.out.mono ?_;rintro e4 w4 ⟨dD,(⟨he,s,rfl,hU,dY,bE⟩|⟨he,i4,rfl⟩)⟩
   case inr=>
    (try dsimp only at he);have K8:=O ((HS.out.below dD).below ((Below.refl _ _).alloc (J _) (X #[Y V 0,Y V 0,U none 0 0,U none 0 0] 35)));have Ip:(e2 !=0)=true:=(by simpa using he);have j:=C.out;rw[if_neg he] at j;have dt:=O j;clear dD he j CH CS CO;go_wp2_with fail
    (try rw[Exit.noGoto_ret]);exact bodyPost_ret (by simp[results,OH,go_sem]) rfl (nI (e:=e2) K8.out (by rw[dt.out];simp) (by rw[dt.out]) HQ.out)
   (try dsimp only at he hU);subst he;have j:=C.out;rw[if_pos rfl] at j;have dt:=O j;have KC:=O hU;have rX:=O dY;have dE:=O (K9.out rfl);have K1:=vG bE HS.out.be.size;have fW:Below w4.heap.size w4 (w4.alloc (X #[Y V s.tm,Y V s.ty,U s.sA (Z s.sp) s.sc,U s.A (Z s.gs) s.c] 35)):=(Below.refl _ _).alloc (J _) _;have Io:=(HS.out.below dD).below fW;have wj:=cD K1 fW;obtain⟨g5,Iq⟩:∃g5,w4.heap.size=g5:=⟨_,rfl⟩;have T:ab (w4.alloc (X #[Y V s.tm,Y V s.ty,U s.sA (Z s.sp) s.sc,U s.A (Z s.gs) s.c] 35)) g5 35 #[Y V s.tm,Y V s.ty,U s.sA (Z s.sp) s.sc,U s.A (Z s.gs) s.c]:=aH (ab.new _ _ _) Iq;have aB:Below (w4.alloc (X #[Y V s.tm,Y V s.ty,U s.sA (Z s.sp) s.sc,U s.A (Z s.gs) s.c] 35)).heap.size (w4.alloc (X #[Y V s.tm,Y V s.ty,U s.sA (Z s.sp) s.sc,U s.A (Z s.gs) s.c] 35)) ((w4.alloc (X #[Y V s.tm,Y V s.ty,U s.sA (Z s.sp) s.sc,U s.A (Z s.gs) s.c] 35)).alloc (X #[Y V s.tm,Y V s.ty,U s.sA (Z s.sp) s.sc,U s.A (Z s.gs) s.c] 35)):=(Below.refl _ _).alloc (J _) _;have eE:=O (Io.below aB);have K5:=O (cD wj aB);have Kr:Hid (Sl ((w4.alloc (X #[Y V s.tm,Y V s.ty,U s.sA (Z s.sp) s.sc,U s.A (Z s.gs) s.c] 35)).alloc (X #[Y V s.tm,Y V s.ty,U s.sA (Z s.sp) s.sc,U s.A (Z s.gs) s.c] 35)) (some ⟨g5+1,0,none⟩) (dS s)):=O (by have h:=ab.sl (ab.new (w4.alloc (X #[Y V s.tm,Y V s.ty,U s.sA (Z s.sp) s.sc,U s.A (Z s.gs) s.c] 35)) 35 #[Y V s.tm,Y V s.ty,U s.sA (Z s.sp) s.sc,U s.A (Z s.gs) s.c]) 0;rw[OR,Iq] at h;exact h);have jT:Hid ((Z ss+1)*64<=140737488355328):=O (by have:=HX.out;have:=K3.out;have:=N.out;omega);have j0:=T.cell 0;have j1:=T.cell 1;have j2:=T.cell 2;have j3:=T.cell 3;simp at j0 j1 j2 j3;clear j hU dY K1 bE fW aB Io wj T dD CH CS CO;unfold iF;go_wp2_with (at_builtin;refine cr Hi rfl rfl rfl eE.out.rows.head rfl (m:=1) (news:=dS s) rfl Kr.out (yy s) jT.out eE.out.be.size ?_;intro v9 w9 gy J2 _;obtain⟨Ax,cx,KE⟩:=aP gy;subst KE;have K2:=O (JM eE.out K5.out gy J2);clear gy J2)
   go_roundg (8*n+1 - p2)
   case measure=>have:=K4.out;have h:=dE.out;rw[HN.out] at h;omega
   case rel=>
    have h1:=dE.out;rw[HN.out] at h1;refine⟨k,p2,ss++[s],rfl,by omega,h1.2,O (by have:=HK.out;omega),O ?_,O ?_,O (by rw[OD,OB];have:=HX.out;omega),O ?_⟩
    ·rw[dt.out,OS,OO,KC.out]
     simp
    ·have h:=K2.out
     exact h
    ·intro y hy
     rcases ON.1 hy with hy|hy
     ·exact HQ.out y hy
     ·rw[OL] at hy
      subst hy;exact rX.out
end Go.Proofs.YthhijgcfbjcgiaaGreatDoor

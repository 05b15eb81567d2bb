/- Shot, Catch, Parse -/
import Derived.Test.YthhijgcfbjcgiaaGreatDoorQ44
namespace Go.Proofs.YthhijgcfbjcgiaaGreatDoor
open Go Go.RowKit
attribute [local go_sem] Oper.semAt_some
set_option maxHeartbeats 16000000
set_option maxRecDepth 100000
open Go.Lib renaming hid→O
open Go.Value renaming slice→U,int→OB,pointer→OC,tuple→OW,agg→Og
open List renaming length→Z,setIfInBounds_toArray→V,set_cons_zero→Y,set_cons_succ→J,mem_cons→OG,drop_succ_cons→OI,length_append→OJ,length_singleton→OL,drop_zero→OM,mem_singleton→ON,flatMap_append→OS,map_singleton→OU,mem_nil_iff→OX,map_append→OZ,mem_append→Oa
open Go.IntKind renaming i64→OA,wrap_i64→OP,i64→OQ
open Go.Proofs.YthhijgcfbjcgiaaGreatDoor.cb renaming take→OD,step→OK
open Nat renaming le_refl→OE,le_trans→OV,le_succ→Oe
open Go.Obj renaming cells→OF
open Tryz renaming prog→OH,results19→OR,f19→OY,results45→Ob,ntmps45→Od,func45→Of
open Go.World renaming ownsRow_nil→OO
open Bool renaming false_eq_true→OT
open Go.Ending renaming returned→Oc
theorem Ad (g:Nat)(A:Option Addr)(n c:Nat)(l:List UInt8)(p:Nat)(sv:Value)(w:World)(hb:ab w g 77 (cL (U A n c) p sv))(hE:AI w g A l)(hn:Z l=n)(hsz:n<=2 ^ 40)(hp:p<=8*n):
  Calls OH 48 #[OC (some ⟨g,0,none⟩)] w (Jk g (U A n c) sv (fD l p) w):=by
 have KX:=O hE;have HN:=O hn;have La:=O hsz;obtain⟨r,B⟩:∃r,fD l p=r:=⟨_,rfl⟩;rw[B];have HR:=O B;obtain⟨h2,LA⟩:∃h2,w.heap.size=h2:=⟨_,rfl⟩;have Le:Below w.heap.size w (w.alloc (OF #[OB OA 0,OB OA 0,U none 0 0,U none 0 0] 35)):=(Below.refl _ _).alloc (OE _) _;have Mp:=dw (g:=g) Le (OE _);have Ln:=hb.alloc (OF #[OB OA 0,OB OA 0,U none 0 0,U none 0 0] 35);have M9:ab (w.alloc (OF #[OB OA 0,OB OA 0,U none 0 0,U none 0 0] 35)) h2 35 #[OB OA 0,OB OA 0,U none 0 0,U none 0 0]:=aH (ab.new _ _ _) LA;have C1:=O (qg g A n c l p sv 0 _ Ln (KX.out _ Mp).2.2 hn hsz hp);have K9:= @oN l p 0;obtain⟨⟨p1,e1⟩,K8⟩:∃z,dM l p 0=z:=⟨_,rfl⟩;rw[K8] at C1 K9;have MW:=O K8;have Lu:=O Mp;have L0:=O Ln;have Kr:=O M9;have Ld:=O K9;have Ni:=O LA;clear hb hE B Le Mp Ln M9 K8 K9
 go_enter Tryz.func48,Tryz.ntmps48
 go_wp2_with fail
 (try rw[LA]);clear LA;generalize w.alloc (OF #[OB OA 0,OB OA 0,U none 0 0,U none 0 0] 35)=W1 at C1 Lu L0 Kr⊢;refine C1.out.mono ?_;rintro e w2 ⟨K0,(⟨cz,⟨u,rfl⟩,gy⟩|⟨cz,bE,p',gy⟩)⟩
 case inr=>
  have B:=HR.out;unfold fD at B;rw[MW.out] at B;dsimp only at B cz bE;rw[if_neg cz] at B;subst B;unfold io at bE;subst bE;exact⟨rfl,Lu.out.trans K0,.inr ⟨cz,rfl,p',gy⟩⟩
 dsimp only at cz gy;subst cz;have Nc:=O (Lu.out.trans K0);have LV:=O (iT Kr.out K0 (aU Kr.out L0.out (by decide)));have MC:=O gy;have Mu:p1<=8*n:=by have:=(Ld.out rfl).2;omega
 obtain⟨⟨⟨tm,ty,sp⟩,p2,e2⟩,hh⟩:∃z,cQ l p1=z:=⟨_,rfl⟩;have CG:=O (λW (h:Sl W A (l.map af))=>IB A n c l p1 W h HN.out La.out Mu);have hU:= @ry l p1;rw[hh] at CG hU;have HH:=O hh;have MI:=O hU;have Np:=O Mu;clear K0 gy hh hU Mu C1 Kr L0 Lu Ld
 go_upto_region 2 with fail
 go_cut [3,4,5] (λs3 s4 s5 wx=>∃(g3:Nat)(A6:Option Addr)(c6:Nat),s3=OC (some ⟨g3,0,none⟩)/\s4=OB OA (dR (p2,e2) p1)/\s5=OB OA e2/\Hid (w.grownBy wx (some g))/\Hid (ab wx g 77 (cL (U A n c) p1 sv))/\Hid (ab wx h2 35 #[OB OA 0,OB OA 0,U none 0 0,U none 0 0])/\Hid (ab wx g3 32 (cT tm ty (U A6 (Z sp) c6)))/\Hid (wx.ownsRow w.heap.size 5 1 (U A6 (Z sp) c6) (Z sp) (sp.map af)))
 case first=>
  have Mo:Below w2.heap.size w2 w2.drew:=(Below.refl _ _).drew;have Io:=O (MC.out.below Mo MC.out.lt);have KR:=O (LV.out.below Mo LV.out.lt);have Lv:=O (Nc.out.trans (lM w2 g));have MU:=O ((KX.out _ Lv.out).2.2);have N1:w.heap.size<=w2.drew.heap.size:=Lv.out.size;have KQ:=O N1;clear Mo N1;refine bf (λw'=>ab w' g 77 (cL (U A n c) p1 sv)) 18 (OD 0 (OD 1 (OD 2 (OD 3 (OD 4 (OD 5 (OD 6 (OD 7 (OD 8 (OD 9 (.fork 10 (OD 11 (OD 12 (OD 13 (OD 14 (OK 15 (OK 16 (OK 17 (.done)))))))) 15 (OK 10 (OD 11 (OD 12 (OD 13 (OD 14 (OK 16 (OK 17 (.done))))))))))))))))))) (Io.out) (λPE K3=>?_)
  iterate 10
   refine aj (v:=?_) rfl (by rfl) ?_ ?_
   rotate_left
   ·intro _ dt;(try dsimp only at dt);have a:=dt;unfold cL at a;have a0:=a.cell 0;have a1:=a.cell 1;(try dsimp only at a0 a1);go_simp;(try with_reducible rfl)
   simp only[V,Y,J]
  refine⟨?_,?_⟩
  ·refine aX (f:=86) rfl (by rfl) (by first|(go_simp;done)|(go_simp;rfl)) (CG.out _ MU.out) ?_
   rintro e4 w4 ⟨v6,rfl,aC,I⟩;obtain⟨A6,c6,Lq⟩:=aP I;subst Lq;have C:=O (Io.out.below aC Io.out.lt);have dY:=O (KR.out.below aC KR.out.lt);have K2:=O (Lv.out.trans (dw aC (OE _)));have Iq:=O (bX I KQ.out);refine⟨_,rfl,_,λ_ h=>h,C.out,?_⟩;simp only[V,Y,J]
   iterate 4
    refine aj (v:=?_) rfl (by rfl) ?_ ?_
    rotate_left
    ·intro _ dt;(try dsimp only at dt);go_simp;(try with_reducible rfl)
    simp only[V,Y,J]
   clear aC I;obtain⟨K,KE⟩:∃K,w4.heap.size=K:=⟨_,rfl⟩;refine az (v:=?_) (w':=?_) rfl (by rfl) ?_ ?_ ?_;rotate_left 2
   ·go_simp;(try (constructor<;>with_reducible rfl))
   ·exact C.out.alloc _
   simp only[V,Y,J];refine bG _ (w':=?_) rfl (by rfl) ?_ ?_ ?_;rotate_left 1
   ·go_simp;(first|(with_reducible rfl)|(constructor<;>with_reducible rfl)|skip)
   ·exact C.out.alloc _
   refine az (v:=?_) (w':=?_) rfl (by rfl) ?_ ?_ ?_;rotate_left 2
   ·go_simp;(try (constructor<;>with_reducible rfl))
   ·exact C.out.alloc _
   simp only[V,Y,J];refine K3 _ _ ?_;clear K3 PE;simp only[OI,OM];go_wp2_with fail
   refine⟨rfl,?_⟩;go_wp2_with fail
   go_meet
   case rel=>
    have rX:Below w4.heap.size w4 (w4.alloc (OF (cT tm ty (U A6 (Z sp) c6)) 32)):=(Below.refl _ _).alloc (OE _) _;exact⟨K,A6,c6,rfl,rfl,rfl,O (K2.out.trans (dw rX (OE _))),O (C.out.below rX C.out.lt),O (dY.out.below rX dY.out.lt),O (aH (ab.new _ _ _) KE),O (cC Iq.out rX (OE _))⟩
  ·obtain⟨K,KE⟩:∃K,w2.heap.size=K:=⟨_,rfl⟩
   refine az (v:=?_) (w':=?_) rfl (by rfl) ?_ ?_ ?_;rotate_left 2
   ·go_simp;(try (constructor<;>with_reducible rfl))
   ·exact Io.out.alloc _
   simp only[V,Y,J];have J2:Below w2.drew.heap.size w2.drew (w2.drew.alloc (OF (cT 0 0 (U none 0 0)) 32)):=(Below.refl _ _).alloc (OE _) _;have Mn:ab (w2.drew.alloc (OF (cT 0 0 (U none 0 0)) 32)) K 32 (cT 0 0 (U none 0 0)):=aH (ab.new _ _ _) KE;refine aX (f:=86) rfl (by rfl) (by first|(go_simp;done)|(go_simp;rfl)) (CG.out _ (MU.out.below J2)) ?_;rintro e4 w4 ⟨v6,rfl,aC,I⟩;obtain⟨A6,c6,Lq⟩:=aP I;subst Lq;have kz:=Mn.below aC Mn.lt;have C:=O ((Io.out.below J2 Io.out.lt).below aC (Io.out.below J2 Io.out.lt).lt);have dY:=O ((KR.out.below J2 KR.out.lt).below aC (KR.out.below J2 KR.out.lt).lt);have K2:=O ((Lv.out.trans (dw J2 (OE _))).trans (dw aC (OE _)));have Iq:=O (bX I (OV KQ.out J2.size));refine⟨_,rfl,_,λ_ h=>h,C.out,?_⟩;simp only[V,Y,J]
   iterate 4
    refine aj (v:=?_) rfl (by rfl) ?_ ?_
    rotate_left
    ·intro _ dt;(try dsimp only at dt);go_simp;(try with_reducible rfl)
    simp only[V,Y,J]
   have Ip:=O kz;have k0:=kz.frozen 0;have k1:=kz.frozen 1;have k2:=kz.frozen 2;unfold cT at kz;have j0:=kz.cell 0;have j1:=kz.cell 1;have j2:=kz.cell 2;simp at j0 j1 j2;have KO:w.heap.size<=K:=(by rw[<-KE];exact KQ.out);have KG:g≠K:=aU C.out Ip.out (by decide);have KH:h2≠K:=aU dY.out Ip.out (by decide);have KM:=ba Iq.out Ip.out (by decide);have LE:=((Ip.out.set_ 0 (OB OA tm)).set_ 1 (OB OA ty)).set_ 2 (U A6 (Z sp) c6);unfold cT at LE;simp only[V,Y,J] at LE;have Nl:=O LE;have Me:=O (((C.out.far (p:=⟨K,0,none⟩) KG (OB OA tm)).far (p:=⟨K,1,none⟩) KG (OB OA ty)).far (p:=⟨K,2,none⟩) KG (U A6 (Z sp) c6));have Nu:=O (((dY.out.far (p:=⟨K,0,none⟩) KH (OB OA tm)).far (p:=⟨K,1,none⟩) KH (OB OA ty)).far (p:=⟨K,2,none⟩) KH (U A6 (Z sp) c6));have Nh:=O (df (df (df K2.out KO 0 (OB OA tm)) KO 1 (OB OA ty)) KO 2 (U A6 (Z sp) c6));have L4:=O (cG (cG (cG Iq.out KM 0 (OB OA tm)) KM 1 (OB OA ty)) KM 2 (U A6 (Z sp) c6));clear aC I Mn kz J2 LE KM KG KH KO;refine bG _ (w':=?_) rfl (by rfl) ?_ ?_ ?_;rotate_left 1
   ·go_simp;(first|(with_reducible rfl)|(constructor<;>with_reducible rfl)|skip)
   ·exact Me.out
   refine az (v:=?_) (w':=?_) rfl (by rfl) ?_ ?_ ?_;rotate_left 2
   ·go_simp;(try (constructor<;>with_reducible rfl))
   ·exact Me.out
   simp only[V,Y,J];refine K3 _ _ ?_;clear K3 PE;simp only[OI,OM];go_wp2_with fail
   refine⟨rfl,?_⟩;go_wp2_with fail
   go_meet
   case rel=>exact⟨K,A6,c6,rfl,rfl,rfl,Nh,Me,Nu,Nl,L4⟩
 obtain⟨g3,A6,c6,rfl,rfl,rfl,K2,C,dY,Ip,Iq⟩:=hcut;have B:=HR.out;unfold fD at B;rw[MW.out] at B;dsimp only at B;rw[if_pos rfl,HH.out] at B;dsimp only at B
 by_cases eE:e2=0
 case neg=>
  rw[if_neg eE] at B;subst B;have Mg:=O eE;have Mf:=O (dO eE);generalize dR (p2,e2) p1=mm;clear eE;go_wp2_with fail
  refine(dW g mm e2 Mg.out _).mono ?_;rintro e7 w7 ⟨bE,rfl⟩;unfold io at bE;subst bE;exact⟨rfl,K2.out,.inr ⟨Mf.out,rfl,p1,C.out⟩⟩
 subst eE;rw[if_pos rfl] at B;obtain⟨LZ,M6,LG⟩:=MI.out rfl;(try dsimp only at LZ M6 LG);rw[hn] at LG;have Lm:dR (p2,0) p1=(p2:Int) - (p1:Int):=by unfold dR;rw[if_pos rfl]
 rw[Lm];have Lr:OQ.wrap ((p1:Int)+((p2:Int) - (p1:Int)))=(p1:Int)+((p2:Int) - (p1:Int)):=by have:=Np.out;have:=La.out;rw[OP];omega
 have Nv:=O Lr;obtain⟨f,hf⟩:∃f,dv ty=f:=⟨_,rfl⟩;rw[hf] at B;have M0:f=0\/f=1:=by rw[<-hf];unfold dv;omega
 have MQ:=O B;have HF:=O hf;have LM:=O M0;have Nq:=O LG;clear B LZ M6 Lm Lr M0 LG;go_wp2_with fail
 refine(ff g (U A n c) sv p1 ((p2:Int) - (p1:Int)) _ C.out Nv.out).mono ?_;rintro e5 w5 ⟨⟨u5,rfl⟩,My⟩;have Lf:=mp C.out p2;have dD:=dY.out.far (p:=⟨g,1,none⟩) (aU dY.out C.out (by decide)) (OB OA (p2:Int));have Ll:=Ip.out.far (p:=⟨g,1,none⟩) (aU Ip.out C.out (by decide)) (OB OA (p2:Int));have Lo:=cG Iq.out (ba Iq.out C.out (by decide)) 1 (OB OA (p2:Int));have Ly:=K2.out.trans (hO _ g 1 (OB OA (p2:Int)));rw[show (p1:Int)+((p2:Int) - (p1:Int))=(p2:Int) by omega] at My;rw[<-My] at Lf dD Ll Lo Ly;clear My;have KV:=O Lf;have L8:=O dD;have Nk:=O Ll;have Nt:=O Lo;have Nf:=O Ly;have KU:=Ll;unfold cT at KU;have j0:=KU.cell 0;have j1:=KU.cell 1;have j2:=KU.cell 2;have k0:=dD.cell 0;have k1:=dD.cell 1;have k2:=dD.cell 2;have k3:=dD.frozen 0;have k4:=dD.frozen 1;have k5:=dD.frozen 2;(try dsimp only at j0 j1 j2 k0 k1 k2 k3 k4 k5);have KI:g3≠h2:=aU Ll dD (by decide);have LD:=((KU.far (p:=⟨h2,0,none⟩) KI (OB OA tm)).far (p:=⟨h2,1,none⟩) KI (OB OA ty)).far (p:=⟨h2,2,none⟩) KI (U A6 (Z sp) c6);have i0:=LD.cell 0;have i1:=LD.cell 1;have i2:=LD.cell 2;(try dsimp only at i0 i1 i2);have KK:g≠h2:=aU Lf dD (by decide);have LB:w.heap.size<=h2:=by rw[Ni.out];exact OE _
 have LJ:=ba Lo dD (by decide);have Mx:=((dD.set_ 0 (OB OA tm)).set_ 1 (OB OA ty)).set_ 2 (U A6 (Z sp) c6);simp only[V,Y,J] at Mx
 have Na:oP w g h2 (U A n c) sv p2 ⟨w.heap.size,3,1,U none 0 0,0,[]⟩ tm ty (U A6 (Z sp) c6) sp (U none 0 0) [] (((w5.setCell ⟨h2,0,none⟩ (OB OA tm)).setCell ⟨h2,1,none⟩ (OB OA ty)).setCell ⟨h2,2,none⟩ (U A6 (Z sp) c6)):=
  ⟨df (df (df Ly LB 0 _) LB 1 _) LB 2 _,((Lf.far (p:=⟨h2,0,none⟩) KK _).far (p:=⟨h2,1,none⟩) KK _).far (p:=⟨h2,2,none⟩) KK _,Mx,LB,
   ai.cons (OO _ _ _ _) (ai.cons (cG (cG (cG Lo LJ 0 _) LJ 1 _) LJ 2 _) (ai.cons (OO _ _ _ _) (aA _))),rfl⟩
 have MV:=O Na;have Mc:=O (λW=>sU tm ty A6 (Z sp) c6 W);have Mz:=O (λW=>ma f LM.out W);rw[hf] at Mc;clear Na Mx LJ KK LD KU Lf dD Ll Lo Ly KI hf Nf Nt Nk L8 KV Iq Ip dY C K2;go_wp2_with (first|(go_at_call 37;refine(Mc.out _).mono ?_;rintro e6 w6 ⟨rfl,MY⟩;have T:=O (MV.out.below MY);clear MY)|(go_at_call 38;refine(Mz.out _).mono ?_;rintro e7 w7 ⟨Al,cl,rfl,N6,MZ⟩;have N:=O (T.out.below MZ);have MO:=O (bX N6 T.out.gb.size);clear N6 MZ))
 clear MV T Mc Mz i0 i1 i2 j0 j1 j2 k0 k1 k2 k3 k4 k5;obtain⟨L,hL⟩:∃L,(aJ f).length=L:=⟨_,rfl⟩
 have Mb:oP w g h2 (U A n c) sv p2 ⟨w.heap.size,3,1,U Al L cl,L,(aJ f).map aE⟩ tm ty (U A6 (Z sp) c6) sp (U none 0 0) [] w7:=
  ⟨N.out.gb,N.out.pr,N.out.sh,N.out.h2,ai.cons N.out.rows.head (ai.cons N.out.rows.tail.head (ai.cons (by have h:=MO.out;rw[hL] at h;exact h) (aA _))),rfl⟩
 have Lx:=O Mb;have HL:=O hL;have LY:L<=12:=by rw[<-hL];exact iw f
 have LO:=O LY;rw[hL];clear Mb N MO hL LY
 go_loopg [46] L (λgk i=> λwr=>∃(j q:Nat)(gs:List cJ)(v:Value),j+gk=L/\i=OB OA (j:Int)/\q<=8*n/\Z gs=j/\Hid (oP w g h2 (U A n c) sv q ⟨w.heap.size,3,1,U Al L cl,L,(aJ f).map aE⟩ tm ty (U A6 (Z sp) c6) sp v gs wr)/\
  Hid (dJ l f (aJ f) p2=(gs.map (·.g)++(dJ l f ((aJ f).drop j) q).1,(dJ l f ((aJ f).drop j) q).2.1,(dJ l f ((aJ f).drop j) q).2.2))/\Hid (∀x∈gs,rZ x))
 case atStart=>exact⟨0,p2,[],U none 0 0,by omega,rfl,Nq.out,rfl,Lx,O rfl,O (λx hx=>by cases hx)⟩
 case round=>
  obtain⟨j,q,gs,v,hj,rfl,N7,N2,D,Mh,KQ⟩:=hrel;have MH:=O N2;clear N2;obtain⟨Av,cv,hv⟩:=aP D.out.rows.head;dsimp only at hv;subst hv
  cases gk with
  |zero=>
   have N4:j=L:=(by omega);have Nx:¬((j:Int)<(L:Int)):=(by omega);have gJ:=Mh.out;rw[N4,List.drop_of_length_le (by rw[HL.out];exact OE _)] at gJ;have B:=MQ.out;rw[gJ] at B;simp only[dJ,List.append_nil] at B;simp only[if_true] at B;have L4:=O B;have wj:=D.out.sh;have k0:=wj.cell 0;have k1:=wj.cell 1;have k2:=wj.cell 2;have k3:=wj.cell 3;have f0:=wj.frozen 0;have f1:=wj.frozen 1;have f2:=wj.frozen 2;have f3:=wj.frozen 3;(try dsimp only at k0 k1 k2 k3 f0 f1 f2 f3);clear B gJ wj hj N4;go_wp2_with fail
   have N9:=(((D.out.sh.set_ 0 (OB OA tm)).set_ 1 (OB OA ty)).set_ 2 (U A6 (Z sp) c6)).set_ 3 (U Av (Z gs) cv);simp only[V,Y,J] at N9;have KJ:g≠h2:=aU D.out.pr D.out.sh (by decide);have KL:∀r∈(⟨w.heap.size,51,4,U Av (Z gs) cv,Z gs,av fb gs⟩::⟨w.heap.size,5,1,U A6 (Z sp) c6,Z sp,sp.map af⟩::⟨w.heap.size,3,1,U Al L cl,L,(aJ f).map aE⟩::fP w.heap.size gs:List aV),r.v.ownBlock≠some h2:= λr B=>ba (D.out.rows r B) D.out.sh (qc rfl (by decide) (by decide) (by decide) (by decide) (by decide) (by decide) r B)
   have K6:ai (⟨w.heap.size,51,4,U Av (Z gs) cv,Z gs,av fb gs⟩::⟨w.heap.size,5,1,U A6 (Z sp) c6,Z sp,sp.map af⟩::⟨w.heap.size,3,1,U Al L cl,L,(aJ f).map aE⟩::fP w.heap.size gs) ((((wr.setCell ⟨h2,0,none⟩ (OB OA tm)).setCell ⟨h2,1,none⟩ (OB OA ty)).setCell ⟨h2,2,none⟩ (U A6 (Z sp) c6)).setCell ⟨h2,3,none⟩ (U Av (Z gs) cv)):=
    λr B=>cG (cG (cG (cG (D.out.rows r B) (KL r B) 0 _) (KL r B) 1 _) (KL r B) 2 _) (KL r B) 3 _
   refine bodyPost_ret (GQ h2 tm ty (U A6 (Z sp) c6) (U Av (Z gs) cv) _ _ N9 rfl) rfl ⟨df (df (df (df D.out.gb D.out.h2 0 _) D.out.h2 1 _) D.out.h2 2 _) D.out.h2 3 _,.inl ⟨by rw[<-L4.out],⟨tm,ty,sp,A6,c6,gs,Av,cv⟩,rfl,by rw[<-L4.out];rfl,KQ.out,?_,?_⟩⟩
   ·rw[<-L4.out]
    exact(((D.out.pr.far (p:=⟨h2,0,none⟩) KJ _).far (p:=⟨h2,1,none⟩) KJ _).far (p:=⟨h2,2,none⟩) KJ _).far (p:=⟨h2,3,none⟩) KJ _
   ·exact ai.cons K6.tail.head (ai.cons K6.head K6.tail.tail.tail)
  |succ gk=>
   have Nx:((j:Int)<(L:Int)):=(by omega);have NF:¬((j:Int)<0):=(by omega);have LC:j<(aJ f).length:=(by rw[HL.out];omega);obtain⟨nm,LF⟩:∃x,(aJ f)[j]=x:=⟨_,rfl⟩;have M5:nm∈aJ f:=(by rw[<-LF];exact List.getElem_mem LC);obtain⟨ad,rfl,_,hc⟩:=(fM D.out.rows.tail.tail.head).int j LC;rw[LF] at hc;have Lh:(aJ f).drop j=nm::(aJ f).drop (j+1):=(by rw[<-LF];exact List.drop_eq_getElem_cons LC);have gJ:=Mh.out;rw[Lh,dJ] at gJ;dsimp only at gJ;have MF:=O gJ;have C1:=O (qg g A n c l q sv nm wr D.out.pr (KX.out _ D.out.gb).2.2 hn hsz N7);have K9:= @oN l q nm;obtain⟨⟨q1,e1⟩,K8⟩:∃z,dM l q nm=z:=⟨_,rfl⟩;rw[K8] at C1 K9;have Lb:=O K8;have Ld:=O K9;have Nn:=O M5;have HJ:=O hj;have NG:OQ.wrap ((j:Int)+1)=(j:Int)+1:=by have:=LO.out;rw[OP];omega
   have KY:Hid (∀e:Int,e≠0->(eK l f nm q).2.2=e->r=(⟨⟨0,0,[]⟩,[]⟩,0,e)):=O (λe he hg=>by
    have B:=MQ.out;rw[MF.out,hg,if_neg he] at B;dsimp only at B;rw[if_neg he] at B;exact B.symm)
   clear hj LC LF Lh gJ K8 K9 N7 M5 Mh;go_wp2_with fail
   refine C1.out.mono ?_;rintro e w2 ⟨K0,(⟨cz,⟨u2,rfl⟩,gy⟩|⟨cz,bE,p',gy⟩)⟩
   case inr=>
    have Lz:(eK l f nm q).2.2=e1:=by
     unfold eK;rw[Lb.out];dsimp only at cz⊢;rw[if_neg cz]
    have B:=KY.out e1 cz Lz;subst B;unfold io at bE;subst bE;exact⟨rfl,D.out.gb.trans K0,.inr ⟨cz,rfl,p',gy⟩⟩
   dsimp only at cz gy;subst cz;have Lw:=O (D.out.go K0 gy);have Mv:q1<=8*n:=(by have:=(Ld.out rfl).2;rw[hn] at this;exact this);obtain⟨⟨⟨qu,M⟩,q2,e2⟩,hh⟩:∃z,fa l q1=z:=⟨_,rfl⟩;have CG:=O (λW (h:Sl W A (l.map af))=>Eh A n c l q1 W h HN.out La.out Mv);have hU:= @rx l q1;rw[hh] at CG hU;have ML:=O hh;have Mk:=O hU;have Nr:=O Mv;clear K0 gy hh hU Mv C1 Ld hc D;go_wp2_with fail
   obtain⟨aB,Li⟩:∃aB,w2.heap.size=aB:=⟨_,rfl⟩;have Le:Below w2.heap.size w2 (w2.alloc (OF (wK nm 0 (U none 0 0) (U none 0 0)) 51)).drew:=((Below.refl _ _).alloc (OE _) _).drew;have L7:=O (Lw.out.below Le);have Ls:Hid (ab (w2.alloc (OF (wK nm 0 (U none 0 0) (U none 0 0)) 51)).drew aB 51 (wK nm 0 (U none 0 0) (U none 0 0))):=O (aH (ab.new _ _ _) Li);have Ml:=O (GN Lw.out.rows (Nat.le_of_eq Li));have Lc:Hid (w.heap.size<=aB):=O (by rw[<-Li];exact Lw.out.gb.size);have LX:Hid (aB<(w2.alloc (OF (wK nm 0 (U none 0 0) (U none 0 0)) 51)).drew.heap.size):=O Ls.out.lt;clear Le Lw;have Mm:=O (aa.cons L7.out.pr (ag _));refine bf (λw'=>aa [(g,77,cL (U A n c) q1 sv)] w') 21 (OD 0 (OD 1 (OD 2 (OD 3 (OD 4 (OD 5 (OD 6 (OD 7 (OD 8 (OD 9 (OK 10 (OD 11 (OD 12 (OD 13 (OD 14 (OD 15 (OD 16 (OK 17 (OD 18 (OK 19 (OK 20 .done))))))))))))))))))))) (Mm.out) (λPE K3=>?_)
   iterate 10
    refine aj (v:=?_) rfl (by rfl) ?_ ?_
    rotate_left
    ·intro _ dt;(try dsimp only at dt);have a:=dt.head;unfold cL at a;have a0:=a.cell 0;have a1:=a.cell 1;(try dsimp only at a0 a1);go_simp;(try with_reducible rfl)
    simp only[V,Y,J]
   refine aX (f:=88) rfl (by rfl) (by first|(go_simp;done)|(go_simp;rfl)) (CG.out _ (KX.out _ L7.out.gb).2.2) ?_;rintro e4 w4 ⟨v6,rfl,aC,I⟩;obtain⟨As,cs,Lq⟩:=aP I;subst Lq;have dY:=O (L7.out.below aC);have C:=O (Ls.out.below aC Ls.out.lt);have Ma:(Value.slice As (Z M) cs).ownBlock≠some aB:= λe=>absurd (Nat.lt_of_lt_of_le LX.out (I.lt aB e).1) (Nat.lt_irrefl _);have LW:=O Ma;have LQ:=O (bX I L7.out.gb.size);have LU:=O (Mm.out.below aC);clear aC I Ma L7 Ls Mm LX;refine⟨_,rfl,_,λ_ h=>h,LU.out,?_⟩;simp only[V,Y,J]
   iterate 6
    refine aj (v:=?_) rfl (by rfl) ?_ ?_
    rotate_left
    ·intro _ dt;(try dsimp only at dt);go_simp;(try with_reducible rfl)
    simp only[V,Y,J]
   have dE:=C.out;unfold wK at dE;have k1:=dE.cell 1;have k2:=dE.cell 2;have k3:=dE.cell 3;have f1:=dE.frozen 1;have f2:=dE.frozen 2;have f3:=dE.frozen 3;(try dsimp only at k1 k2 k3 f1 f2 f3);have KV:=O (C.out.set_ 1 (OB OA qu));have L8:=O (dY.out.off C.out (.inl rfl) Lc.out Ml.out 1 (OB OA qu));have LR:=O (cG LQ.out LW.out 1 (OB OA qu));have KC:=KV.out.set_ 2 (U As (Z M) cs);have N8:=L8.out.off KV.out (.inl rfl) Lc.out Ml.out 2 (U As (Z M) cs);have M8:=cG LR.out LW.out 2 (U As (Z M) cs);unfold wK at KC;simp only[V,Y,J] at KC;have Lt:=O KC;have T:=O N8;have L5:=O M8;clear dE KC N8 M8;refine bG _ (w':=?_) rfl (by rfl) ?_ ?_ ?_;rotate_left 1
   ·go_simp;(first|(with_reducible rfl)|(constructor<;>with_reducible rfl)|skip)
   ·exact aa.cons L8.out.pr (ag _)
   refine aj (v:=?_) rfl (by rfl) ?_ ?_;rotate_left
   ·intro _ dt;(try dsimp only at dt);go_simp;(try with_reducible rfl)
   simp only[V,Y,J];refine bG _ (w':=?_) rfl (by rfl) ?_ ?_ ?_;rotate_left 1
   ·go_simp;(first|(with_reducible rfl)|(constructor<;>with_reducible rfl)|skip)
   ·exact aa.cons T.out.pr (ag _)
   refine az (v:=?_) (w':=?_) rfl (by rfl) ?_ ?_ ?_;rotate_left 2
   ·go_simp;(try (constructor<;>with_reducible rfl))
   ·exact aa.cons T.out.pr (ag _)
   simp only[V,Y,J];refine K3 _ _ ?_;clear K3 PE;simp only[OI,OM];go_wp2_with fail
   refine⟨rfl,?_⟩;clear k1 k2 k3 f1 f2 LU C dY LQ KV L8 LR;generalize (w4.setCell ⟨aB,1,none⟩ (OB OA qu)).setCell ⟨aB,2,none⟩ (U As (Z M) cs)=w5 at Lt T L5 f3⊢
   by_cases eE:e2=0
   case neg=>
    have Lz:(eK l f nm q).2.2=dQ e2:=by
     unfold eK;rw[Lb.out];dsimp only;rw[if_pos rfl,ML.out];dsimp only;rw[if_neg eE]
    have B:=KY.out (dQ e2) (dO eE) Lz;subst B;have Mg:=O eE;have Mf:=O (dO eE);generalize dR (q2,e2) q1=mm;clear eE Lz;go_wp2_with fail
    refine(dW g mm e2 Mg.out _).mono ?_;rintro e7 w7 ⟨bE,rfl⟩;unfold io at bE;subst bE;exact⟨rfl,T.out.gb,.inr ⟨Mf.out,rfl,q1,T.out.pr⟩⟩
   subst eE;have LH:=(Mk.out rfl).2.2.2.2;(try dsimp only at LH);rw[hn] at LH;have Lm:dR (q2,0) q1=(q2:Int) - (q1:Int):=(by unfold dR;rw[if_pos rfl]);rw[Lm];have Lr:OQ.wrap ((q1:Int)+((q2:Int) - (q1:Int)))=(q1:Int)+((q2:Int) - (q1:Int)):=(by have:=Nr.out;have:=La.out;rw[OP];omega);have MX:=O Lr;have MP:=O LH;clear Lm Lr LH;go_wp2_with fail
   refine(ff g (U A n c) sv q1 ((q2:Int) - (q1:Int)) _ T.out.pr MX.out).mono ?_;rintro e5 w6 ⟨⟨u5,rfl⟩,LL⟩;rw[show (q1:Int)+((q2:Int) - (q1:Int))=(q2:Int) by omega] at LL;have KF:w5.grownBy w6 (some g):=(by rw[LL];exact hO _ _ _ _);have N:=O (T.out.go KF (show ab w6 g 77 (cL (U A n c) q2 sv) by rw[LL];exact mp T.out.pr q2));have Md:=O (iT Lt.out KF (aU Lt.out T.out.pr (by decide)));have LT:=O (sF L5.out KF T.out.pr (by decide));clear LL KF f3 Lt T L5;have CM:=O (wF g A n c l q2 sv f nm w6 N.out.pr (KX.out.to N.out.gb) HN.out La.out MP.out LM.out Nn.out);obtain⟨⟨ml,q3,e3⟩,Mr⟩:∃z,bL l f nm (8*Z l+1) q2 co=z:=⟨_,rfl⟩;have K5:= @mh l f nm (8*Z l+1) q2 co (by rw[hn];exact MP.out) (by decide);rw[Mr] at CM K5;have Nj:=O Mr;have MJ:=O K5
   have M4:eK l f nm q=if e3=0 then(⟨nm,qu,M,ml⟩,q3,0) else(⟨0,0,[],[]⟩,0,e3):=by
    unfold eK;rw[Lb.out];dsimp only;rw[if_pos rfl,ML.out];dsimp only;rw[if_pos rfl,Nj.out]
   have LN:=O M4;clear Mr K5 M4;go_wp2_with fail
   refine CM.out.mono ?_;rintro e7 w7 ⟨Lj,(⟨KT,mv,es,rfl,Ms,gJ,K1,fW⟩|⟨KT,bE,p',K1⟩)⟩
   case inr=>
    have B:=KY.out e3 KT (by rw[LN.out,if_neg KT]);subst B;unfold io at bE;subst bE;exact⟨rfl,N.out.gb.trans Lj,.inr ⟨KT,rfl,p',K1⟩⟩
   (try dsimp only at KT Ms K1);subst KT;have LI:=(MJ.out rfl).2.2;(try dsimp only at LI);rw[hn] at LI;obtain⟨Am,cm,Nb⟩:=aP fW.head;dsimp only at Nb;subst Nb;have Lk:=N.out.gb.size;have Lx:=O (N.out.go Lj K1);have KW:=O (iT Md.out Lj (aU Md.out N.out.pr (by decide)));have L6:=O (sF LT.out Lj N.out.pr (by decide));have LP:Hid (ai (⟨w.heap.size,55,7,U Am (Z es) cm,Z es,av dy es⟩::fc w.heap.size es) w7):=O (ai.cons (bX fW.head Lk) (pY fW.tail Lk));have MG:=O gJ;have Nm:=O Ms;have Ns:=O LI;clear Lj K1 fW Ms gJ LI Lk CM N Md LT;have Lg:=KW.out;unfold wK at Lg;have f3:=Lg.frozen 3;have k3:=Lg.cell 3;(try dsimp only at f3 k3);have K4:=Lg.set_ 3 (U Am (Z es) cm);simp only[V,Y,J] at K4;have NE:=O K4;have MT:=O (Lx.out.off KW.out (.inl rfl) Lc.out Ml.out 3 (U Am (Z es) cm));have MR:=O (cG L6.out (ba L6.out KW.out (by decide)) 3 (U Am (Z es) cm));have MM:=O (br LP.out KW.out (lN (by decide) (by decide) (by decide)) 3 (U Am (Z es) cm));have i0:=K4.cell 0;have i1:=K4.cell 1;have i2:=K4.cell 2;have i3:=K4.cell 3;have i4:=MT.out.sh.cell 3;(try dsimp only at i0 i1 i2 i3 i4);clear Lg K4 Lx KW L6 LP;obtain⟨G,hG⟩:∃G:cJ,(⟨nm,qu,M,As,cs,es,Am,cm⟩:cJ)=G:=⟨_,rfl⟩;have N0:fb G=[OB OA nm,OB OA qu,U As (Z M) cs,U Am (Z es) cm]:=(by rw[<-hG];rfl);have Ng:=O N0;have Mj:=O hG;clear N0 hG;have rX:Below (w7.setCell ⟨aB,3,none⟩ (U Am (Z es) cm)).heap.size (w7.setCell ⟨aB,3,none⟩ (U Am (Z es) cm)) ((w7.setCell ⟨aB,3,none⟩ (U Am (Z es) cm)).alloc (OF #[OB OA nm,OB OA qu,U As (Z M) cs,U Am (Z es) cm] 51)):=(Below.refl _ _).alloc (OE _) _;have ja:=O (MT.out.below rX);have MS:=O (cC MR.out rX (OE _));have MN:=O (cD MM.out rX);have jT:((w7.setCell ⟨aB,3,none⟩ (U Am (Z es) cm)).alloc (OF #[OB OA nm,OB OA qu,U As (Z M) cs,U Am (Z es) cm] 51)).ownsRow w.heap.size 51 4 (U Av (Z gs) cv) (Z gs) (av fb gs):=ja.out.rows.head;have KZ:=O jT;have ME:Hid ((Z gs+1)*64<=140737488355328):=O (by have:=MH.out;have:=LO.out;have:=HJ.out;omega);have MD:=O ja.out.gb.size;clear rX jT;go_wp2_with (at_builtin;refine cr Hg rfl rfl rfl KZ.out rfl (m:=1) (news:=[OB OA nm,OB OA qu,U As (Z M) cs,U Am (Z es) cm]) rfl (by have h:=ab.sl (ab.new (w7.setCell ⟨aB,3,none⟩ (U Am (Z es) cm)) 51 #[OB OA nm,OB OA qu,U As (Z M) cs,U Am (Z es) cm]) 0;rw[World.size_setCell] at h;exact h) (by intro u hu;simp only[OG,OX,or_false] at hu;rcases hu with rfl|rfl|rfl|rfl<;>rfl) ME.out MD.out ?_;intro v9 w9 Mt Mq _;obtain⟨Ax,cx,ND⟩:=aP Mt;subst ND;have No:=O Mt;have Mi:=O Mq;have KN:=ja.out.sh.grown Mq (ba KZ.out ja.out.sh (by decide));have L9:=O KN;have x3:=KN.cell 3;have y3:=KN.frozen 3;(try dsimp only at x3 y3);clear Mt Mq KN)
   go_roundg gk
   case measure=>omega
   case rel=>
    have N5:(gs++[G]).length=Z gs+1:=(by rw[OJ,OL]);have jT:=KZ.out;have hk:∀R:List aV,ai R ((w7.setCell ⟨aB,3,none⟩ (U Am (Z es) cm)).alloc (OF #[OB OA nm,OB OA qu,U As (Z M) cs,U Am (Z es) cm] 51))->(∀r∈R,r.e≠51)->ai R w9:= λR hR Ny r B=>(hR r B).kept Mi.out (ji jT (hR r B) (Ne.symm (Ny r B)));have N3:fP w.heap.size (gs++[G])=fP w.heap.size gs++mg w.heap.size G:=by unfold fP;rw[OS];simp
    have Nz:ai (mg w.heap.size G) w9:=by
     rw[<-Mj.out];exact ai.cons (hk [⟨w.heap.size,5,1,U As (Z M) cs,Z M,M.map af⟩] (ai.cons MS.out (aA _)) (by intro r B;rw[ON] at B;subst B;dsimp only;decide)).head (hk _ MN.out (lN (by decide) (by decide) (by decide)))
    have Mw:=hk _ ja.out.rows.tail (by
     intro r B;rcases OG.1 B with rfl|B
     ·dsimp only;decide
     rcases OG.1 B with rfl|B
     ·dsimp only;decide
     ·rcases qt r B with h|h|h|h<;>rw[h]<;>decide)
    have LK:ai (⟨w.heap.size,51,4,U Ax (Z gs+1) cx,(gs++[G]).length,av fb (gs++[G])⟩::⟨w.heap.size,5,1,U A6 (Z sp) c6,Z sp,sp.map af⟩::⟨w.heap.size,3,1,U (some ad) L cl,L,(aJ f).map aE⟩::fP w.heap.size (gs++[G])) w9:=by
     refine ai.cons ?_ (ai.cons Mw.head (ai.cons Mw.tail.head ?_))
     ·rw[N5,eo,dV,Ng.out]
      exact No.out
     ·rw[N3]
      exact Mw.tail.tail.app Nz
    have Lp:=L9.out.set_ 3 (U Ax (Z gs+1) cx);simp only[V,Y,J] at Lp;have M7:=ja.out.pr.grown Mi.out (ba jT ja.out.pr (by decide));refine⟨j+1,q3,gs++[G],U Ax (Z gs+1) cx,by have:=HJ.out;omega,rfl,Ns.out,by rw[N5,MH.out],O ⟨df (xA ja.out.gb Mi.out (λk e=>(jT.lt k e).1)) ja.out.h2 3 _,M7.far (p:=⟨h2,3,none⟩) (aU M7 L9.out (by decide)) _,Lp,ja.out.h2,?_,rfl⟩,O ?_,O ?_⟩
    ·exact br LK L9.out (qc rfl (by decide) (by decide) (by decide) (by decide) (by decide) (by decide)) 3 _
    ·have Nw:eK l f nm q=(⟨nm,qu,M,ml⟩,q3,0):=by
      have h:=LN.out
      simpa using h
     rw[MF.out,Nw]
     dsimp only
     rw[if_pos rfl,OZ,OU,<-Mj.out]
     unfold cJ.g
     dsimp only
     rw[Nm.out]
     simp
    ·intro y hy
     rcases Oa.1 hy with hy|hy
     ·exact KQ.out y hy
     ·rw[ON] at hy
      subst hy;rw[<-Mj.out];exact MG.out
def wP (h g B:Nat) (o x C j:Value) (p:Nat):List aL:=[(h,22,#[o]),(h+1,26,#[x]),(g,77,cL j p C),(B,73,#[OC (some ⟨g,0,none⟩)])]
theorem Ca (h g I:Nat)(o x bv:Value)(G:Option Addr)(ns B:Nat)(p:Nat)(W:World)(j:aa (wP h g I o x (U G ns B) bv p) W):
  CallsD OH 45 #[OC (some ⟨I,0,none⟩),OC (some ⟨h,0,none⟩),OC (some ⟨h+1,0,none⟩)] .returning W λe u' W'=>e=Oc (OW #[])/\u'= .returning/\W'=W.setCell ⟨h,0,none⟩ (U G ns B):=by
 unfold wP cL at j;have K:=j.head.cell 0;have M:=j.head.frozen 0;have N:=j.tail.tail.head.cell 2;have T:=j.tail.tail.tail.head.cell 0;(try dsimp only at K M N T);clear j;refine callsD_of_wpS Of rfl λC cs D=>?_;apply wpS_seq;apply wpS_region;simp[wpOpsS,go_sem,recoverD,D,Od,Exit.thenS,K,M,N,T];apply wpS_seq;apply wpS_region;simp[wpOpsS,go_sem,recoverD,D,Exit.thenS];apply wpS_seq;apply wpS_region;simp[wpOpsS,go_sem,recoverD,D,Exit.thenS];refine wpS_cond (t:=false) (by simp[Act.eval,Array.replicate]) ?_;simp only[OT,if_false];refine wpS_of_wp (wp_skip ?_)
 cases C
 simp_all [bodyPostS,results,Ob]
theorem sj (h g M:Nat)(o x bv:Value)(G:Option Addr)(ns B:Nat)(p:Nat)(er:Int)(j:List PanicEntry)(W:World)(C:aa (wP h g M o x (U G ns B) bv p) W):
  CallsD OH 45 #[OC (some ⟨M,0,none⟩),OC (some ⟨h,0,none⟩),OC (some ⟨h+1,0,none⟩)] (.panicking ({v:= .iface 79 (Og #[OB OA er]),recovered:=false}::j)) W λe u' W'=>
   e=Oc (OW #[])/\u'= .panicking ({v:= .iface 79 (Og #[OB OA er]),recovered:=true}::j)/\W'=((W.setCell ⟨h,0,none⟩ (U G ns B)).alloc (OF #[OB OA er] 79)).setCell ⟨h+1,0,none⟩ (OB OA er):=by
 have I:∀W:World,Sem.run OH (Instr.typeAssert (Value.iface 79 (Value.agg #[Value.int OQ er])) 20 79 true) W= .ok (OW #[Og #[OB OA er],.bool true]) W:= λW=>by rfl
 have N:=C.tail.head;have D:=(N.far (p:=⟨h,0,none⟩) (by simp) (U G ns B)).alloc (OF #[OB OA er] 79);have y0:=D.cell 0;have y1:=D.frozen 0;unfold wP cL at C;have z0:=C.head.cell 0;have z1:=C.head.frozen 0;have z2:=C.tail.tail.head.cell 2;have z3:=C.tail.tail.tail.head.cell 0;(try dsimp only at z0 z1 z2 z3 y0 y1);clear C N D;refine callsD_of_wpS Of rfl λK cs T=>?_;apply wpS_seq;apply wpS_region;simp[wpOpsS,go_sem,recoverD,T,Od,Exit.thenS,z0,z1,z2,z3];apply wpS_seq;apply wpS_region;simp[wpOpsS,go_sem,recoverD,T,Exit.thenS];apply wpS_seq;apply wpS_region;simp[wpOpsS,go_sem,recoverD,Exit.thenS];refine wpS_cond (t:=true) (by simp[Act.eval,Array.replicate]) ?_;simp only[if_true];apply wpS_seq;apply wpS_region;simp[wpOpsS,go_sem,recoverD,Exit.thenS,I];apply wpS_seq;apply wpS_seq;apply wpS_region;simp[wpOpsS,go_sem,recoverD,Exit.thenS];refine wpS_cond (t:=false) (by simp[Act.eval,Array.replicate]) ?_;simp only[OT,if_false];refine wpS_of_wp (wp_skip ?_);simp only[Exit.thenS];apply wpS_region;simp[wpOpsS,go_sem,recoverD,y0,y1];simp[bodyPostS,results,Ob]
theorem tc {l:List UInt8}{p:Nat}(h:(fD l p).2.2=0):p+20<=(fD l p).2.1/\(fD l p).2.1<=8*(Z l):=by
 obtain⟨_,b,c⟩:=yz h;have:20<=(gv (fD l p).1).length:=by unfold gv;rw[OJ,jd];omega
 exact⟨by omega,c⟩
structure iS (w:World) (h g h3:Nat) (bv:Value) (p:Nat) (v:Value) (ss:List bu) (W:World):Prop where
 be:Below w.heap.size w W
 cs:aa (wP h g h3 (U none 0 0) (OB OA 0) v bv p) W
 lo:w.heap.size<=h/\w.heap.size<=g
 rows:ai (⟨w.heap.size,35,4,v,Z ss,av dS ss⟩::gY w.heap.size ss) W
theorem ka {B:Nat}{v:Value}{ss:List bu}{t:TypeId}(C:t≠35)(D:t≠51)(h2:t≠5)(G:t≠55)(I:t≠93)(K:t≠189):
  ∀r∈(⟨B,35,4,v,Z ss,av dS ss⟩::gY B ss:List aV),r.e≠t:=by
 intro r j;rcases OG.1 j with rfl|j
 ·exact Ne.symm C
 ·rcases qD r j with h|h|h|h|h<;>rw[h]
  ·exact Ne.symm D
  ·exact Ne.symm h2
  ·exact Ne.symm G
  ·exact Ne.symm I
  ·exact Ne.symm K
section
variable {w:World} {h g h3:Nat} {bv:Value} {p:Nat} {v:Value} {ss:List bu} {W W':World}
theorem iS.pr (k:iS w h g h3 bv p v ss W):ab W g 77 (cL bv p v):=k.cs.tail.tail.head
theorem iS.pc (k:iS w h g h3 bv p v ss W):ab W h3 73 #[OC (some ⟨g,0,none⟩)]:=k.cs.tail.tail.tail.head
theorem iS.ou (k:iS w h g h3 bv p v ss W):ab W h 22 #[U none 0 0]:=k.cs.head
theorem iS.er (k:iS w h g h3 bv p v ss W):ab W (h+1) 26 #[OB OA 0]:=k.cs.tail.head
theorem iS.go (k:iS w h g h3 bv p v ss W){q:Nat}(j:W.grownBy W' (some g))(B:ab W' g 77 (cL bv q v)):iS w h g h3 bv q v ss W':=
 ⟨sG k.be j k.be.size k.lo.2,aa.cons (iT k.ou j (aU k.ou k.pr (by decide))) (aa.cons (iT k.er j (aU k.er k.pr (by decide))) (aa.cons B (aa.cons (iT k.pc j (aU k.pc k.pr (by decide))) (ag _)))),k.lo,
  BC k.rows k.pr j (ka (by decide) (by decide) (by decide) (by decide) (by decide) (by decide))⟩
end
theorem Hi:eY OH 22 35 4 64:= .mk' (z:=Og #[OB OA 0,OB OA 0,U none 0 0,U none 0 0]) (by kernel_rfl) (by kernel_rfl) rfl (by decide) (by decide)
def nu (r:List dI×Int) (w:World) (e:Ending) (w':World):Prop:=
 ∃A c ss,e=Oc (OW #[U A (Z ss) c,OB OA r.2])/\ss.map (·.s)=r.1/\(∀s∈ss,ki s)/\Below w.heap.size w w'/\ai (⟨w.heap.size,35,4,U A (Z ss) c,Z ss,av dS ss⟩::gY w.heap.size ss) w'
theorem iS.ret {w:World}{h g j:Nat}{B:Value}{p:Nat}{v:Value}{ss:List bu}{W:World}(k:iS w h g j B p v ss W):iS w h g j B p v ss ((W.setCell ⟨h,0,none⟩ (U none 0 0)).setCell ⟨h+1,0,none⟩ (OB OA 0)):=by
 have o:=k.ou;have e:=k.er;have q:=k.pr;have c:=k.pc;have n1:h+1≠h:=by omega
 have n2:g≠h:=aU q o (by decide);have n3:g≠h+1:=aU q e (by decide);have G:j≠h:=aU c o (by decide);have I:j≠h+1:=aU c e (by decide);have D:=(o.set_ 0 (U none 0 0)).far (p:=⟨h+1,0,none⟩) (Ne.symm n1) (OB OA 0);have C:=(e.far (p:=⟨h,0,none⟩) n1 (U none 0 0)).set_ 0 (OB OA 0);have q1:=(q.far (p:=⟨h,0,none⟩) n2 (U none 0 0)).far (p:=⟨h+1,0,none⟩) n3 (OB OA 0);have c1:=(c.far (p:=⟨h,0,none⟩) G (U none 0 0)).far (p:=⟨h+1,0,none⟩) I (OB OA 0);simp only[V,Y] at D C
 exact⟨(k.be.setCell (p:=⟨h,0,none⟩) k.lo.1 _).setCell (p:=⟨h+1,0,none⟩) (OV k.lo.1 (Oe _)) _,aa.cons D (aa.cons C (aa.cons q1 (aa.cons c1 (ag _)))),k.lo,
  br (br k.rows o (ka (by decide) (by decide) (by decide) (by decide) (by decide) (by decide)) _ _) (e.far (p:=⟨h,0,none⟩) n1 (U none 0 0)) (ka (by decide) (by decide) (by decide) (by decide) (by decide) (by decide)) _ _⟩
theorem iS.app {w:World}{h g M:Nat}{K:Value}{p:Nat}{v:Value}{ss:List bu}{W C:World}{s:bu}{I:Value}(k:iS w h g M K p v ss W)(hs:ai (lc w.heap.size s) W)(G:W.grownBy C v.ownBlock)(ho:C.ownsRow w.heap.size 35 4 I (Z ss+1) (av dS ss++dS s)):
  ab C g 77 (cL K p v)/\ab C M 73 #[OC (some ⟨g,0,none⟩)]/\iS w h g M K p I (ss++[s]) (C.setCell ⟨g,2,none⟩ I):=by
 have B:W.ownsRow w.heap.size 35 4 v (Z ss) (av dS ss):=k.rows.head;have q:=k.pr.grown G (ba B k.pr (by decide));have c:=k.pc.grown G (ba B k.pc (by decide));have o:=k.ou.grown G (ba B k.ou (by decide));have e:=k.er.grown G (ba B k.er (by decide));have hk:∀R:List aV,ai R W->(∀r∈R,r.e≠35)->ai R C:= λR hR aC r D=>(hR r D).kept G (ji B (hR r D) (Ne.symm (aC r D)));have aB:(ss++[s]).length=Z ss+1:=by rw[OJ,OL]
 have N:ai (⟨w.heap.size,35,4,I,(ss++[s]).length,av dS (ss++[s])⟩::gY w.heap.size (ss++[s])) C:=by
  refine ai.cons ?_ ?_
  ·rw[aB,eo,dV]
   exact ho
  ·have T:gY w.heap.size (ss++[s])=gY w.heap.size ss++lc w.heap.size s:=by unfold gY;rw[OS];simp
   rw[T];exact(hk _ k.rows.tail (by intro r D;rcases qD r D with h|h|h|h|h<;>rw[h]<;>decide)).app (hk _ hs (by intro r D;rcases E7 r D with h|h|h|h|h<;>rw[h]<;>decide))
 have q1:=q.set_ 2 I;unfold cL at q1;simp only[V,Y,J] at q1
 refine⟨q,c,(k.be.grown G k.be.size (λj e=>(B.lt j e).1)).setCell (p:=⟨g,2,none⟩) k.lo.2 _,aa.cons (o.far (p:=⟨g,2,none⟩) (aU o q (by decide)) _) (aa.cons (e.far (p:=⟨g,2,none⟩) (aU e q (by decide)) _) (aa.cons q1 (aa.cons (c.far (p:=⟨g,2,none⟩) (aU c q (by decide)) _) (ag _)))),k.lo,
  br N q (ka (by decide) (by decide) (by decide) (by decide) (by decide) (by decide)) _ _⟩
theorem yy (s:bu):∀u∈dS s,u.oneCell'=true:=by
 intro u j;simp only[dS,OG,OX,or_false] at j;rcases j with rfl|rfl|rfl|rfl<;>rfl
theorem vG {B I:Nat}{s:bu}{W:World}(h:ai (lc B s) W)(C:I<=B):ai (lc I s) W:=by
 intro r D;rcases OG.1 D with rfl|D
 ·exact bX h.head C
 rcases OG.1 D with rfl|D
 ·exact bX h.tail.head C
 obtain⟨p,K,j⟩:=List.mem_flatMap.1 D;have G:=uU h.tail.tail K;rcases OG.1 j with rfl|j
 ·exact bX G.head C
 rcases OG.1 j with rfl|j
 ·exact bX G.tail.head C
 exact pY G.tail.tail C r j
def Jt (h j:Nat):List Deferred:=[{target:= .fn (Fn.func 45) #[OC (some ⟨j,0,none⟩),OC (some ⟨h,0,none⟩),OC (some ⟨h+1,0,none⟩)],args:= #[]}]
theorem xW {w:World}{h g B:Nat}{G:Value}{p:Nat}{v:Value}{ss:List bu}{W:World}{r:List dI×Int}{tmps:Array Value}(k:iS w h g B G p v ss W)(N:ss.map (·.s)=r.1)(he:r.2=0)(M:∀s∈ss,ki s) (t2:tmps.getD 2 undef=OC (some ⟨h,0,none⟩)) (t3:tmps.getD 3 undef=OC (some ⟨h+1,0,none⟩)):
  Leaves OH OY tmps (nu r w) (Jt h B) .returning W:=by
 obtain⟨j,cs,I⟩:=aP k.rows.head;dsimp only at I;subst I;refine leaves_cons (f:=45) (args:= #[OC (some ⟨B,0,none⟩),OC (some ⟨h,0,none⟩),OC (some ⟨h+1,0,none⟩)]) (by simp) (by simp[go_sem]) ?_;refine(Ca h g B _ _ G j (Z ss) cs p W k.cs).mono ?_;rintro e u W' ⟨rfl,rfl,rfl⟩;have n1:h+1≠h:=by omega
 have T:=k.ou.set_ 0 (U j (Z ss) cs);have K:=k.er.far (p:=⟨h,0,none⟩) n1 (U j (Z ss) cs);have c0:=T.cell 0;have c1:=K.cell 0;(try dsimp only at c0 c1);have C:tmps[2]?.getD undef=OC (some ⟨h,0,none⟩):=by simpa using t2
 have D:tmps[3]?.getD undef=OC (some ⟨h+1,0,none⟩):=by simpa using t3
 refine⟨OW #[U j (Z ss) cs,OB OA 0],?_,j,cs,ss,by rw[he],N,M,k.be.setCell (p:=⟨h,0,none⟩) k.lo.1 _,br k.rows k.ou (ka (by decide) (by decide) (by decide) (by decide) (by decide) (by decide)) _ _⟩;simp[results,OR,C,D,asAddr,c0,c1,go_sem]
theorem EF {w:World}{h g B:Nat}{G:Value}{p:Nat}{v:Value}{ss:List bu}{W:World}{r:List dI×Int}{tmps:Array Value}(k:iS w h g B G p v ss W)(T:ss.map (·.s)=r.1)(N:∀s∈ss,ki s) (t2:tmps.getD 2 undef=OC (some ⟨h,0,none⟩)) (t3:tmps.getD 3 undef=OC (some ⟨h+1,0,none⟩)):
  Leaves OH OY tmps (nu r w) (Jt h B) (.panicking [{v:= .iface 79 (Og #[OB OA r.2]),recovered:=false}]) W:=by
 obtain⟨j,cs,K⟩:=aP k.rows.head;dsimp only at K;subst K;refine leaves_cons (f:=45) (args:= #[OC (some ⟨B,0,none⟩),OC (some ⟨h,0,none⟩),OC (some ⟨h+1,0,none⟩)]) (by simp) (by simp[go_sem]) ?_;refine(sj h g B _ _ G j (Z ss) cs p r.2 [] W k.cs).mono ?_;rintro e u W' ⟨rfl,rfl,rfl⟩;have n1:h+1≠h:=by omega
 have o1:=((k.ou.set_ 0 (U j (Z ss) cs)).alloc (OF #[OB OA r.2] 79));have I:=((k.er.far (p:=⟨h,0,none⟩) n1 (U j (Z ss) cs)).alloc (OF #[OB OA r.2] 79));have M:=I.set_ 0 (OB OA r.2);have o2:=o1.far (p:=⟨h+1,0,none⟩) (Ne.symm n1) (OB OA r.2);have c0:=o2.cell 0;have c1:=M.cell 0;(try dsimp only at c0 c1);have C:tmps[2]?.getD undef=OC (some ⟨h,0,none⟩):=by simpa using t2
 have D:tmps[3]?.getD undef=OC (some ⟨h+1,0,none⟩):=by simpa using t3
 have r1:=br k.rows k.ou (ka (by decide) (by decide) (by decide) (by decide) (by decide) (by decide)) 0 (U j (Z ss) cs);have r2:=cD r1 ((Below.refl _ _).alloc (OE _) (OF #[OB OA r.2] 79));have r3:=br r2 I (ka (by decide) (by decide) (by decide) (by decide) (by decide) (by decide)) 0 (OB OA r.2);refine⟨OW #[U j (Z ss) cs,OB OA r.2],?_,j,cs,ss,rfl,T,N,((k.be.setCell (p:=⟨h,0,none⟩) k.lo.1 _).alloc (by have:=k.be.size;simpa using this) _).setCell (p:=⟨h+1,0,none⟩) (OV k.lo.1 (Oe _)) _,r3⟩;simp[results,OR,C,D,asAddr,c0,c1,go_sem]
theorem JI {j:Array Oper}{R:Ending->World->Prop}(h:(j.toList.all λo=>o.dst !=some 2&&o.dst !=some 3)=true)(c:List PanicEntry)(a:Act)(o:Oper)(v:Value)(w:World)(I:o∈j.toList)(C:bodyPostD OH OY R (.panic c) (a.put o.dst v) w):bodyPostD OH OY R (.panic c) a w:=by
 have B:=List.all_eq_true.1 h o I;simp only[Bool.and_eq_true,bne_iff_ne,ne_eq] at B;unfold bodyPostD at C⊢;have hd:(a.put o.dst v).defers=a.defers:=by cases o.dst<;>rfl
 dsimp only at C⊢;rw[hd] at C;refine nf ?_ _ _ _ C
 cases D:o.dst with
 |none=>rfl
 |some d=>
  rw[D] at B;have h2:d≠2:= λe=>B.1 (by rw[e]);have G:d≠3:= λe=>B.2 (by rw[e]);simp[results,OR,Act.put,Array.getElem?_setIfInBounds,h2,G]
theorem yG (A:Option Addr)(n c:Nat)(l:List UInt8)(w:World)(hE:∀W,Below w.heap.size w W->Tz W/\Ts W/\Sl W A (l.map af)) (hn:Z l=n) (hsz:n<=2 ^ 40):
  Calls OH 19 #[U A n c] w (nu (eN l) w):=by
 have rX:=O hE;have HN:=O hn;have fW:=O hsz;obtain⟨r,j⟩:∃r,eN l=r:=⟨_,rfl⟩;rw[j];have HR:=O j;obtain⟨h,hh⟩:∃h,w.heap.size=h:=⟨_,rfl⟩;have HH:=O hh;have KI:∀(fn:Fn)(first Iq:Array Value)(w:World),(Instr.makeFunc fn first Iq).run OH w= .ok (.func fn first Iq) w:= λ_ _ _ _=>rfl;clear hE j
 have G:iS w h (h+1+1) (h+1+1+1) (U A n c) 0 (U none 0 0) [] ((((w.alloc (OF #[U none 0 0] 22)).alloc (OF #[OB OA 0] 26)).alloc (OF (cL (U A n c) 0 (U none 0 0)) 77)).alloc (OF #[OC (some ⟨h+1+1,0,none⟩)] 73)):=by
  have s1:(w.alloc (OF #[U none 0 0] 22)).heap.size=h+1:=(by simp[hh]);have s2:((w.alloc (OF #[U none 0 0] 22)).alloc (OF #[OB OA 0] 26)).heap.size=h+1+1:=(by simp[hh]);have s3:(((w.alloc (OF #[U none 0 0] 22)).alloc (OF #[OB OA 0] 26)).alloc (OF (cL (U A n c) 0 (U none 0 0)) 77)).heap.size=h+1+1+1:=(by simp[hh]);refine⟨((((Below.refl _ _).alloc (OE _) _).alloc (by rw[s1];omega) _).alloc (by rw[s2];omega) _).alloc (by rw[s3];omega) _,?_,⟨by omega,by omega⟩,ai.cons (OO _ _ _ _) (aA _)⟩;exact aa.cons ((((aH (ab.new _ _ _) hh).alloc _).alloc _).alloc _) (aa.cons (((aH (ab.new _ _ _) s1).alloc _).alloc _) (aa.cons ((aH (ab.new _ _ _) s2).alloc _) (aa.cons (aH (ab.new _ _ _) s3) (ag _))))
 unfold cL at G;simp only[Int.natCast_zero] at G;obtain⟨g,hg⟩:∃g,h+1+1=g:=⟨_,rfl⟩;obtain⟨h3,bE⟩:∃h3,g+1=h3:=⟨_,rfl⟩;rw[hg] at G;rw[bE] at G;have C:=O G;have HG:=O hg;have KG:=O bE;clear G
 go_enter_defers Tryz.func19,Tryz.ntmps19
 go_wp2_with fail
 (try rw[hg]);(try rw[bE]);clear hg bE hh;generalize ((((w.alloc (OF #[U none 0 0] 22)).alloc (OF #[OB OA 0] 26)).alloc (OF #[U A n c,OB OA 0,U none 0 0] 77)).alloc (OF #[OC (some ⟨g,0,none⟩)] 73))=W1 at C⊢;have gJ:∀W X,Below w.heap.size w W->W.grownBy X (some g)->Tz X/\Ts X/\Sl X A (l.map af):= λW X hb hx=>rX.out X (sG hb hx hb.size C.out.lo.2);have dE:=O gJ;refine(Ac g A n c l (U none 0 0) W1 C.out.pr (rX.out _ C.out.be).2.2 (λW hW=>(dE.out _ W C.out.be hW).2.2) hn hsz).mono ?_;rintro e w2 ⟨aC,(⟨hf,rfl,p',M⟩|⟨q,hf,K4,rfl,M⟩)⟩
 ·have B:=C.out.go aC M
  have j:=HR.out;unfold eN at j;rw[hf] at j;have dY:=O B;have c0:=B.ou.frozen 0;have c1:=B.er.frozen 0;have c2:=B.ou.cell 0;have c3:=B.er.cell 0;clear hf aC M B gJ C;go_wp2_with fail
  exact xW dY.out.ret (by rw[<-j];rfl) (by rw[<-j]) (λs hs=>by cases hs) rfl rfl
 have dY:=O (C.out.go aC M);have j:=HR.out;unfold eN at j;rw[hf] at j;dsimp only at j;have K9:=O j;have wj:=O (show q<=8*n by rw[<-hn];exact K4);have KF:Hid (n<=2 ^ 47):=O (by omega);clear hf aC M gJ C j K4;go_wp2_with fail
 go_loopg [] (8*n+1 - q) (λgk=> λwr=>∃(k p:Nat)(v:Value)(ss:List bu),p+gk=8*n+1/\p<=8*n/\Hid (8*n<p+k)/\Hid (r=(ss.map (·.s)++(gH l k p).1,(gH l k p).2))/\Hid (iS w h g h3 (U A n c) p v ss wr)/\Hid (20*Z ss<=p)/\Hid (∀s∈ss,ki s))
 case atStart=>exact⟨8*Z l+1,q,U none 0 0,[],by have:=wj.out;omega,wj.out,O (by have:=HN.out;omega),O (by rw[K9.out];rfl),dY,O (Nat.zero_le _),O (λm hm=>by cases hm)⟩
 case round=>
  obtain⟨k,p,v,ss,K3,T,HK,HE,HS,HX,HQ⟩:=hrel;obtain⟨k,rfl⟩:∃k',k=k'+1:=⟨k - 1,by have:=HK.out;omega⟩;obtain⟨Av,cv,hv⟩:=aP HS.out.rows.head;dsimp only at hv;subst hv;have K2:=HS.out.pc.cell 0;(try dsimp only at K2);have KH:=O K2;have CO:=O (rf g A n c l p (U Av (Z ss) cv) wr HS.out.pr (dE.out _ _ HS.out.be (tV _ _)).2.2 HN.out fW.out T)
  cases ho:dB l p with
  |true=>
   have j:=HE.out;rw[gH,if_pos ho] at j;rw[ho] at CO;have I:=O j;have B:=HS.out;have c0:=B.ou.frozen 0;have c1:=B.er.frozen 0;have c2:=B.ou.cell 0;have c3:=B.er.cell 0;clear ho j T B;go_wp2_with (go_at_call 47;refine CO.out.mono ?_;rintro e3 w3 ⟨rfl,rfl⟩)
   exact xW HS.out.ret (by rw[I.out];simp) (by rw[I.out]) HQ.out rfl rfl
  |false=>
   have j:=HE.out;rw[gH,if_neg (by rw[ho];decide)] at j;rw[ho] at CO;dsimp only at j;have cz:= @tc l p;obtain⟨⟨sm,p2,e2⟩,hs⟩:∃z,fD l p=z:=⟨_,rfl⟩;rw[hs] at j cz;have CS:=O (λW (h1:ab W g 77 (cL (U A n c) p (U Av (Z ss) cv))) (h2:AI W g A l)=>Ad g A n c l p (U Av (Z ss) cv) W h1 h2 HN.out fW.out T);rw[hs] at CS;dsimp only at j cz;have I:=O j;have Io:=O cz;have K5:=O T;have K6:=O K3;clear ho j hs cz T K3;go_wp2_with (go_at_call 47;refine CO.out.mono ?_;rintro e3 w3 ⟨rfl,rfl⟩)
   have K:=O (HS.out.go (lM wr g) HS.out.pr);refine tB (λw'=>(∃q,ab w' g 77 (cL (U A n c) q (U Av (Z ss) cv)))/\ab w' h3 73 #[OC (some ⟨g,0,none⟩)]) 9 (OD 0 (OD 1 (OD 2 (OD 3 (OD 4 (OD 5 (OK 6 (OK 7 (OK 8 .done))))))))) (by kernel_rfl) (by kernel_rfl) (JI (by decide)) (by simp only[cb.out,Array.getD_eq_getD_getElem?,List.getElem?_toArray,List.getElem?_cons_zero,List.getElem?_cons_succ,Option.getD_some];rfl) (by simp only[List.map_cons,List.map_nil];rfl) (⟨⟨p,HS.out.pr⟩,HS.out.pc⟩) (λPE J2=>?_)
   iterate 6
    refine DB (v:=?_) rfl (by rfl) ?_ ?_
    rotate_left
    ·intro _ K0;(try dsimp only at K0);obtain⟨⟨q9,a⟩,b⟩:=K0;unfold cL at a;have a0:=a.cell 2;have b0:=b.cell 0;(try dsimp only at a0 b0);go_simp;(try with_reducible rfl)
    simp only[V,Y,J]
   refine DA (f:=48) rfl (by rfl) (by first|(go_simp;done)|(go_simp;rfl)) (CS.out _ K.out.pr (λX hX=>dE.out _ X K.out.be hX)) ?_;rintro e4 w4 ⟨hU,(⟨he,s,rfl,kz,dD,N,aB⟩|⟨he,jT,p',N⟩)⟩;rotate_left 1
   ·right
    have j:=I.out;dsimp only at he jT;rw[if_neg he] at j;rw[show e2=r.2 by rw[j]] at jT;exact⟨_,jT,EF (K.out.go hU N) (by rw[j];simp) HQ.out rfl rfl⟩
   left
   dsimp only at he kz N;subst he;have D:=O (K.out.go hU N);have Kr:=O (vG aB K.out.be.size);have Ip:=O dD;have KC:=O kz;have dt:=O (Io.out rfl);clear hU N aB dD kz CS CO Io;refine⟨_,rfl,(λw'=>ab w' g 77 (cL (U A n c) p2 (U Av (Z ss) cv))/\ab w' h3 73 #[OC (some ⟨g,0,none⟩)]),λ_ h=>⟨⟨_,h.1⟩,h.2⟩,⟨D.out.pr,D.out.pc⟩,?_⟩;simp only[V,Y,J];unfold iF;refine az (v:=?_) (w':=?_) rfl (by rfl) ?_ ?_ ?_;rotate_left 2
   ·go_simp;(try (constructor<;>with_reducible rfl))
   ·exact⟨D.out.pr.alloc _,D.out.pc.alloc _⟩
   simp only[V,Y,J];have gy:Below w4.heap.size w4 (w4.alloc (OF #[OB OA s.tm,OB OA s.ty,U s.sA (Z s.sp) s.sc,U s.A (Z s.gs) s.c] 35)):=(Below.refl _ _).alloc (OE _) _;have eE:=O (D.out.go (dw gy (OE _)) (D.out.pr.alloc _));have K8:=O (cD Kr.out gy);clear gy;refine vO Hi rfl (by rfl) rfl rfl eE.out.rows.head rfl (news:=dS s) (m:=1) (by have h:=ab.sl (ab.new w4 35 (dS s).toArray) 0;exact h) rfl (yy s) (by have:=HX.out;have:=K5.out;have:=fW.out;dsimp only;omega) eE.out.be.size ?_;intro v7 w7 ja K1;obtain⟨Ax,cx,KE⟩:=aP ja;subst KE;obtain⟨b7,c7,k7⟩:=eE.out.app K8.out K1 ja;have B7:=O b7;have C7:=O c7;have K7:=O k7;refine⟨⟨B7.out,C7.out⟩,?_⟩;simp only[V,Y,J];refine J2 _ _ ?_;clear J2 PE;simp only[OI,OM];have f2:=b7.frozen 2;unfold cL at b7;have z2:=b7.cell 2;(try dsimp only at f2 z2);clear b7 c7 k7 K1 ja;go_wp2_with fail
   go_roundg (8*n+1 - p2)
   case measure=>have:=K6.out;have:=dt.out;omega
   case rel=>
    have h1:=dt.out;rw[HN.out] at h1;refine⟨k,p2,U Ax (Z ss+1) cx,ss++[s],by omega,h1.2,O (by have:=HK.out;omega),O ?_,K7,O (by rw[OJ,OL];have:=HX.out;omega),O ?_⟩
    ·rw[I.out,OZ,OU,KC.out]
     simp
    ·intro y hy
     rcases Oa.1 hy with hy|hy
     ·exact HQ.out y hy
     ·rw[ON] at hy
      subst hy;exact Ip.out
end Go.Proofs.YthhijgcfbjcgiaaGreatDoor

/- Shot, Catch, Parse -/
import Derived.Test.YthhijgcfbjcgiaaGreatDoorT45
namespace Go.Proofs.YthhijgcfbjcgiaaGreatDoor
open Go Go.RowKit
attribute [local go_sem] Oper.semAt_some
set_option maxHeartbeats 16000000
set_option maxRecDepth 100000
open Go.Lib renaming hid→O
open Go.Value renaming slice→U,int→OB,pointer→OC,tuple→OW,agg→Og
open List renaming length→Z,setIfInBounds_toArray→V,set_cons_zero→Y,set_cons_succ→J,mem_cons→OG,drop_succ_cons→OI,length_append→OJ,length_singleton→OL,drop_zero→OM,mem_singleton→ON,flatMap_append→OS,map_singleton→OU,mem_nil_iff→OX,map_append→OZ,mem_append→Oa
open Go.IntKind renaming i64→OA,wrap_i64→OP,i64→OQ
open Go.Proofs.YthhijgcfbjcgiaaGreatDoor.bY renaming take→OD,step→OK
open Nat renaming le_refl→OE,le_trans→OV,le_succ→Oe
open Go.Obj renaming cells→OF
open Tryz renaming prog→OH,results19→OR,f19→OY,results45→Ob,ntmps45→Od,func45→Of
open Go.World renaming ownsRow_nil→OO
open Bool renaming false_eq_true→OT
open Go.Ending renaming returned→Oc
theorem zW (g:Nat)(A:Option Addr)(n c:Nat)(l:List UInt8)(p:Nat)(sv:Value)(w:World)(hb:ab w g 77 (cF (U A n c) p sv))(hE:AA w g A l)(hn:Z l=n)(hsz:n<=2 ^ 40)(hp:p<=8*n):
  Calls OH 48 #[OC (some ⟨g,0,none⟩)] w (I7 g (U A n c) sv (fM l p) w):=by
 have KQ:=O hE;have HN:=O hn;have L4:=O hsz;obtain⟨r,B⟩:∃r,fM l p=r:=⟨_,rfl⟩;rw[B];have HR:=O B;obtain⟨h2,Lu⟩:∃h2,w.heap.size=h2:=⟨_,rfl⟩;have L8:Below w.heap.size w (w.alloc (OF #[OB OA 0,OB OA 0,U none 0 0,U none 0 0] 35)):=(Below.refl _ _).alloc (OE _) _;have Mj:=dr (g:=g) L8 (OE _);have Lh:=hb.alloc (OF #[OB OA 0,OB OA 0,U none 0 0,U none 0 0] 35);have M0:ab (w.alloc (OF #[OB OA 0,OB OA 0,U none 0 0,U none 0 0] 35)) h2 35 #[OB OA 0,OB OA 0,U none 0 0,U none 0 0]:=aE (ab.new _ _ _) Lu;have C1:=O (pW g A n c l p sv 0 _ Lh (KQ.out _ Mj).2.2 hn hsz hp);have Kv:= @oK l p 0;obtain⟨⟨p1,e1⟩,Ku⟩:∃z,fP l p 0=z:=⟨_,rfl⟩;rw[Ku] at C1 Kv;have MQ:=O Ku;have Lo:=O Mj;have KU:=O Lh;have Kw:=O M0;have L7:=O Kv;have Na:=O Lu;clear hb hE B L8 Mj Lh M0 Ku Kv
 go_enter Tryz.func48,Tryz.ntmps48
 go_wp2_with fail
 (try rw[Lu]);clear Lu;generalize w.alloc (OF #[OB OA 0,OB OA 0,U none 0 0,U none 0 0] 35)=W1 at C1 Lo KU Kw⊢;refine C1.out.mono ?_;rintro e w2 ⟨K3,(⟨cE,⟨u,rfl⟩,gj⟩|⟨cE,bM,p',gj⟩)⟩
 case inr=>
  have B:=HR.out;unfold fM at B;rw[MQ.out] at B;dsimp only at B cE bM;rw[if_neg cE] at B;subst B;unfold ie at bM;subst bM;exact⟨rfl,Lo.out.trans K3,.inr ⟨cE,rfl,p',gj⟩⟩
 dsimp only at cE gj;subst cE;have N6:=O (Lo.out.trans K3);have LO:=O (i7 Kw.out K3 (aT Kw.out KU.out (by decide)));have Mu:=O gj;have Mo:p1<=8*n:=by have:=(L7.out rfl).2;omega
 obtain⟨⟨⟨tm,ty,sp⟩,p2,e2⟩,hh⟩:∃z,iM l p1=z:=⟨_,rfl⟩;have CG:=O (λW (h:Sl W A (l.map ag))=>Ij A n c l p1 W h HN.out L4.out Mo);have jg:= @xh l p1;rw[hh] at CG jg;have HH:=O hh;have MC:=O jg;have Nj:=O Mo;clear K3 gj hh jg Mo C1 Kw KU Lo L7
 go_upto_region 2 with fail
 go_cut [3,4,5] (λs3 s4 s5 wx=>∃(g3:Nat)(A6:Option Addr)(c6:Nat),s3=OC (some ⟨g3,0,none⟩)/\s4=OB OA (kb (p2,e2) p1)/\s5=OB OA e2/\Hid (w.grownBy wx (some g))/\Hid (ab wx g 77 (cF (U A n c) p1 sv))/\Hid (ab wx h2 35 #[OB OA 0,OB OA 0,U none 0 0,U none 0 0])/\Hid (ab wx g3 32 (ed tm ty (U A6 (Z sp) c6)))/\Hid (wx.ownsRow w.heap.size 5 1 (U A6 (Z sp) c6) (Z sp) (sp.map ag)))
 case first=>
  have Mi:Below w2.heap.size w2 w2.drew:=(Below.refl _ _).drew;have Ht:=O (Mu.out.below Mi Mu.out.lt);have KK:=O (LO.out.below Mi LO.out.lt);have Lp:=O (N6.out.trans (lP w2 g));have MO:=O ((KQ.out _ Lp.out).2.2);have MV:w.heap.size<=w2.drew.heap.size:=Lp.out.size;have KJ:=O MV;clear Mi MV;refine aP (λw'=>ab w' g 77 (cF (U A n c) p1 sv)) 18 (OD 0 (OD 1 (OD 2 (OD 3 (OD 4 (OD 5 (OD 6 (OD 7 (OD 8 (OD 9 (.fork 10 (OD 11 (OD 12 (OD 13 (OD 14 (OK 15 (OK 16 (OK 17 (.done)))))))) 15 (OK 10 (OD 11 (OD 12 (OD 13 (OD 14 (OK 16 (OK 17 (.done))))))))))))))))))) (Ht.out) (λPE K6=>?_)
  iterate 10
   refine af (v:=?_) rfl (by rfl) ?_ ?_
   rotate_left
   ·intro _ cI;(try dsimp only at cI);have a:=cI;unfold cF at a;have a0:=a.cell 0;have a1:=a.cell 1;(try dsimp only at a0 a1);go_simp;(try with_reducible rfl)
   simp only[V,Y,J]
  refine⟨?_,?_⟩
  ·refine aG (f:=86) rfl (by rfl) (by first|(go_simp;done)|(go_simp;rfl)) (CG.out _ MO.out) ?_
   rintro e4 w4 ⟨v6,rfl,aJ,I⟩;obtain⟨A6,c6,Lk⟩:=bg I;subst Lk;have C:=O (Ht.out.below aJ Ht.out.lt);have dO:=O (KK.out.below aJ KK.out.lt);have K5:=O (Lp.out.trans (dr aJ (OE _)));have JT:=O (cJ I KJ.out);refine⟨_,rfl,_,λ_ h=>h,C.out,?_⟩;simp only[V,Y,J]
   iterate 4
    refine af (v:=?_) rfl (by rfl) ?_ ?_
    rotate_left
    ·intro _ cI;(try dsimp only at cI);go_simp;(try with_reducible rfl)
    simp only[V,Y,J]
   clear aJ I;obtain⟨K,Ky⟩:∃K,w4.heap.size=K:=⟨_,rfl⟩;refine aj (v:=?_) (w':=?_) rfl (by rfl) ?_ ?_ ?_;rotate_left 2
   ·go_simp;(try (constructor<;>with_reducible rfl))
   ·exact C.out.alloc _
   simp only[V,Y,J];refine bD _ (w':=?_) rfl (by rfl) ?_ ?_ ?_;rotate_left 1
   ·go_simp;(first|(with_reducible rfl)|(constructor<;>with_reducible rfl)|skip)
   ·exact C.out.alloc _
   refine aj (v:=?_) (w':=?_) rfl (by rfl) ?_ ?_ ?_;rotate_left 2
   ·go_simp;(try (constructor<;>with_reducible rfl))
   ·exact C.out.alloc _
   simp only[V,Y,J];refine K6 _ _ ?_;clear K6 PE;simp only[OI,OM];go_wp2_with fail
   refine⟨rfl,?_⟩;go_wp2_with fail
   go_meet
   case rel=>
    have rG:Below w4.heap.size w4 (w4.alloc (OF (ed tm ty (U A6 (Z sp) c6)) 32)):=(Below.refl _ _).alloc (OE _) _;exact⟨K,A6,c6,rfl,rfl,rfl,O (K5.out.trans (dr rG (OE _))),O (C.out.below rG C.out.lt),O (dO.out.below rG dO.out.lt),O (aE (ab.new _ _ _) Ky),O (bL JT.out rG (OE _))⟩
  ·obtain⟨K,Ky⟩:∃K,w2.heap.size=K:=⟨_,rfl⟩
   refine aj (v:=?_) (w':=?_) rfl (by rfl) ?_ ?_ ?_;rotate_left 2
   ·go_simp;(try (constructor<;>with_reducible rfl))
   ·exact Ht.out.alloc _
   simp only[V,Y,J];have K0:Below w2.drew.heap.size w2.drew (w2.drew.alloc (OF (ed 0 0 (U none 0 0)) 32)):=(Below.refl _ _).alloc (OE _) _;have Mh:ab (w2.drew.alloc (OF (ed 0 0 (U none 0 0)) 32)) K 32 (ed 0 0 (U none 0 0)):=aE (ab.new _ _ _) Ky;refine aG (f:=86) rfl (by rfl) (by first|(go_simp;done)|(go_simp;rfl)) (CG.out _ (MO.out.below K0)) ?_;rintro e4 w4 ⟨v6,rfl,aJ,I⟩;obtain⟨A6,c6,Lk⟩:=bg I;subst Lk;have kU:=Mh.below aJ Mh.lt;have C:=O ((Ht.out.below K0 Ht.out.lt).below aJ (Ht.out.below K0 Ht.out.lt).lt);have dO:=O ((KK.out.below K0 KK.out.lt).below aJ (KK.out.below K0 KK.out.lt).lt);have K5:=O ((Lp.out.trans (dr K0 (OE _))).trans (dr aJ (OE _)));have JT:=O (cJ I (OV KJ.out K0.size));refine⟨_,rfl,_,λ_ h=>h,C.out,?_⟩;simp only[V,Y,J]
   iterate 4
    refine af (v:=?_) rfl (by rfl) ?_ ?_
    rotate_left
    ·intro _ cI;(try dsimp only at cI);go_simp;(try with_reducible rfl)
    simp only[V,Y,J]
   have Hu:=O kU;have k0:=kU.frozen 0;have k1:=kU.frozen 1;have k2:=kU.frozen 2;unfold ed at kU;have j0:=kU.cell 0;have j1:=kU.cell 1;have j2:=kU.cell 2;simp at j0 j1 j2;have KI:w.heap.size<=K:=(by rw[<-Ky];exact KJ.out);have KA:g≠K:=aT C.out Hu.out (by decide);have KB:h2≠K:=aT dO.out Hu.out (by decide);have KG:=ba JT.out Hu.out (by decide);have Ly:=((Hu.out.set_ 0 (OB OA tm)).set_ 1 (OB OA ty)).set_ 2 (U A6 (Z sp) c6);unfold ed at Ly;simp only[V,Y,J] at Ly;have Nf:=O Ly;have M8:=O (((C.out.far (p:=⟨K,0,none⟩) KA (OB OA tm)).far (p:=⟨K,1,none⟩) KA (OB OA ty)).far (p:=⟨K,2,none⟩) KA (U A6 (Z sp) c6));have No:=O (((dO.out.far (p:=⟨K,0,none⟩) KB (OB OA tm)).far (p:=⟨K,1,none⟩) KB (OB OA ty)).far (p:=⟨K,2,none⟩) KB (U A6 (Z sp) c6));have N9:=O (db (db (db K5.out KI 0 (OB OA tm)) KI 1 (OB OA ty)) KI 2 (U A6 (Z sp) c6));have KV:=O (cP (cP (cP JT.out KG 0 (OB OA tm)) KG 1 (OB OA ty)) KG 2 (U A6 (Z sp) c6));clear aJ I Mh kU K0 Ly KG KA KB KI;refine bD _ (w':=?_) rfl (by rfl) ?_ ?_ ?_;rotate_left 1
   ·go_simp;(first|(with_reducible rfl)|(constructor<;>with_reducible rfl)|skip)
   ·exact M8.out
   refine aj (v:=?_) (w':=?_) rfl (by rfl) ?_ ?_ ?_;rotate_left 2
   ·go_simp;(try (constructor<;>with_reducible rfl))
   ·exact M8.out
   simp only[V,Y,J];refine K6 _ _ ?_;clear K6 PE;simp only[OI,OM];go_wp2_with fail
   refine⟨rfl,?_⟩;go_wp2_with fail
   go_meet
   case rel=>exact⟨K,A6,c6,rfl,rfl,rfl,N9,M8,No,Nf,KV⟩
 obtain⟨g3,A6,c6,rfl,rfl,rfl,K5,C,dO,Hu,JT⟩:=hcut;have B:=HR.out;unfold fM at B;rw[MQ.out] at B;dsimp only at B;rw[if_pos rfl,HH.out] at B;dsimp only at B
 by_cases eE:e2=0
 case neg=>
  rw[if_neg eE] at B;subst B;have Ma:=O eE;have M9:=O (jk eE);generalize kb (p2,e2) p1=mm;clear eE;go_wp2_with fail
  refine(dM g mm e2 Ma.out _).mono ?_;rintro e7 w7 ⟨bM,rfl⟩;unfold ie at bM;subst bM;exact⟨rfl,K5.out,.inr ⟨M9.out,rfl,p1,C.out⟩⟩
 subst eE;rw[if_pos rfl] at B;obtain⟨LT,LX,LA⟩:=MC.out rfl;(try dsimp only at LT LX LA);rw[hn] at LA;have Lg:kb (p2,0) p1=(p2:Int) - (p1:Int):=by unfold kb;rw[if_pos rfl]
 rw[Lg];have Ll:OQ.wrap ((p1:Int)+((p2:Int) - (p1:Int)))=(p1:Int)+((p2:Int) - (p1:Int)):=by have:=Nj.out;have:=L4.out;rw[OP];omega
 have Np:=O Ll;obtain⟨f,hf⟩:∃f,dJ ty=f:=⟨_,rfl⟩;rw[hf] at B;have LU:f=0\/f=1:=by rw[<-hf];unfold dJ;omega
 have MJ:=O B;have HF:=O hf;have LG:=O LU;have Nk:=O LA;clear B LT LX Lg Ll LU LA;go_wp2_with fail
 refine(eZ g (U A n c) sv p1 ((p2:Int) - (p1:Int)) _ C.out Np.out).mono ?_;rintro e5 w5 ⟨⟨u5,rfl⟩,Ms⟩;have L9:=mu C.out p2;have dv:=dO.out.far (p:=⟨g,1,none⟩) (aT dO.out C.out (by decide)) (OB OA (p2:Int));have Lf:=Hu.out.far (p:=⟨g,1,none⟩) (aT Hu.out C.out (by decide)) (OB OA (p2:Int));have Li:=cP JT.out (ba JT.out C.out (by decide)) 1 (OB OA (p2:Int));have Ls:=K5.out.trans (gY _ g 1 (OB OA (p2:Int)));rw[show (p1:Int)+((p2:Int) - (p1:Int))=(p2:Int) by omega] at Ms;rw[<-Ms] at L9 dv Lf Li Ls;clear Ms;have KN:=O L9;have KZ:=O dv;have Nc:=O Lf;have Nn:=O Li;have N7:=O Ls;have KM:=Lf;unfold ed at KM;have j0:=KM.cell 0;have j1:=KM.cell 1;have j2:=KM.cell 2;have k0:=dv.cell 0;have k1:=dv.cell 1;have k2:=dv.cell 2;have k3:=dv.frozen 0;have k4:=dv.frozen 1;have k5:=dv.frozen 2;(try dsimp only at j0 j1 j2 k0 k1 k2 k3 k4 k5);have KC:g3≠h2:=aT Lf dv (by decide);have Lx:=((KM.far (p:=⟨h2,0,none⟩) KC (OB OA tm)).far (p:=⟨h2,1,none⟩) KC (OB OA ty)).far (p:=⟨h2,2,none⟩) KC (U A6 (Z sp) c6);have i0:=Lx.cell 0;have i1:=Lx.cell 1;have i2:=Lx.cell 2;(try dsimp only at i0 i1 i2);have KE:g≠h2:=aT L9 dv (by decide);have Lv:w.heap.size<=h2:=by rw[Na.out];exact OE _
 have LD:=ba Li dv (by decide);have Mr:=((dv.set_ 0 (OB OA tm)).set_ 1 (OB OA ty)).set_ 2 (U A6 (Z sp) c6);simp only[V,Y,J] at Mr
 have N4:oO w g h2 (U A n c) sv p2 ⟨w.heap.size,3,1,U none 0 0,0,[]⟩ tm ty (U A6 (Z sp) c6) sp (U none 0 0) [] (((w5.setCell ⟨h2,0,none⟩ (OB OA tm)).setCell ⟨h2,1,none⟩ (OB OA ty)).setCell ⟨h2,2,none⟩ (U A6 (Z sp) c6)):=
  ⟨db (db (db Ls Lv 0 _) Lv 1 _) Lv 2 _,((L9.far (p:=⟨h2,0,none⟩) KE _).far (p:=⟨h2,1,none⟩) KE _).far (p:=⟨h2,2,none⟩) KE _,Mr,Lv,
   ar.cons (OO _ _ _ _) (ar.cons (cP (cP (cP Li LD 0 _) LD 1 _) LD 2 _) (ar.cons (OO _ _ _ _) (aF _))),rfl⟩
 have MP:=O N4;have M6:=O (λW=>sj tm ty A6 (Z sp) c6 W);have Mt:=O (λW=>mj f LG.out W);rw[hf] at M6;clear N4 Mr LD KE Lx KM L9 dv Lf Li Ls KC hf N7 Nn Nc KZ KN JT Hu dO C K5;go_wp2_with (first|(go_at_call 37;refine(M6.out _).mono ?_;rintro e6 w6 ⟨rfl,MS⟩;have T:=O (MP.out.below MS);clear MS)|(go_at_call 38;refine(Mt.out _).mono ?_;rintro e7 w7 ⟨Al,cl,rfl,N0,MT⟩;have N:=O (T.out.below MT);have MH:=O (cJ N0 T.out.gb.size);clear N0 MT))
 clear MP T M6 Mt i0 i1 i2 j0 j1 j2 k0 k1 k2 k3 k4 k5;obtain⟨L,hL⟩:∃L,(aK f).length=L:=⟨_,rfl⟩
 have M5:oO w g h2 (U A n c) sv p2 ⟨w.heap.size,3,1,U Al L cl,L,(aK f).map aH⟩ tm ty (U A6 (Z sp) c6) sp (U none 0 0) [] w7:=
  ⟨N.out.gb,N.out.pr,N.out.sh,N.out.h2,ar.cons N.out.rows.head (ar.cons N.out.rows.tail.head (ar.cons (by have h:=MH.out;rw[hL] at h;exact h) (aF _))),rfl⟩
 have Lr:=O M5;have HL:=O hL;have LR:L<=12:=by rw[<-hL];exact ip f
 have LI:=O LR;rw[hL];clear M5 N MH hL LR
 go_loopg [46] L (λgk i=> λwr=>∃(j q:Nat)(gs:List cQ)(v:Value),j+gk=L/\i=OB OA (j:Int)/\q<=8*n/\Z gs=j/\Hid (oO w g h2 (U A n c) sv q ⟨w.heap.size,3,1,U Al L cl,L,(aK f).map aH⟩ tm ty (U A6 (Z sp) c6) sp v gs wr)/\
  Hid (gN l f (aK f) p2=(gs.map (·.g)++(gN l f ((aK f).drop j) q).1,(gN l f ((aK f).drop j) q).2.1,(gN l f ((aK f).drop j) q).2.2))/\Hid (∀x∈gs,vW x))
 case atStart=>exact⟨0,p2,[],U none 0 0,by omega,rfl,Nk.out,rfl,Lr,O rfl,O (λx hx=>by cases hx)⟩
 case round=>
  obtain⟨j,q,gs,v,hj,rfl,N1,MW,D,Mb,KJ⟩:=hrel;have Mz:=O MW;clear MW;obtain⟨Av,cv,hv⟩:=bg D.out.rows.head;dsimp only at hv;subst hv
  cases gk with
  |zero=>
   have MY:j=L:=(by omega);have Nr:¬((j:Int)<(L:Int)):=(by omega);have iP:=Mb.out;rw[MY,List.drop_of_length_le (by rw[HL.out];exact OE _)] at iP;have B:=MJ.out;rw[iP] at B;simp only[gN,List.append_nil] at B;simp only[if_true] at B;have KV:=O B;have Hl:=D.out.sh;have k0:=Hl.cell 0;have k1:=Hl.cell 1;have k2:=Hl.cell 2;have k3:=Hl.cell 3;have f0:=Hl.frozen 0;have f1:=Hl.frozen 1;have f2:=Hl.frozen 2;have f3:=Hl.frozen 3;(try dsimp only at k0 k1 k2 k3 f0 f1 f2 f3);clear B iP Hl hj MY;go_wp2_with fail
   have N3:=(((D.out.sh.set_ 0 (OB OA tm)).set_ 1 (OB OA ty)).set_ 2 (U A6 (Z sp) c6)).set_ 3 (U Av (Z gs) cv);simp only[V,Y,J] at N3;have KD:g≠h2:=aT D.out.pr D.out.sh (by decide);have KF:∀r∈(⟨w.heap.size,51,4,U Av (Z gs) cv,Z gs,az fV gs⟩::⟨w.heap.size,5,1,U A6 (Z sp) c6,Z sp,sp.map ag⟩::⟨w.heap.size,3,1,U Al L cl,L,(aK f).map aH⟩::jc w.heap.size gs:List a9),r.v.ownBlock≠some h2:= λr B=>ba (D.out.rows r B) D.out.sh (ym rfl (by decide) (by decide) (by decide) (by decide) (by decide) (by decide) r B)
   have Kt:ar (⟨w.heap.size,51,4,U Av (Z gs) cv,Z gs,az fV gs⟩::⟨w.heap.size,5,1,U A6 (Z sp) c6,Z sp,sp.map ag⟩::⟨w.heap.size,3,1,U Al L cl,L,(aK f).map aH⟩::jc w.heap.size gs) ((((wr.setCell ⟨h2,0,none⟩ (OB OA tm)).setCell ⟨h2,1,none⟩ (OB OA ty)).setCell ⟨h2,2,none⟩ (U A6 (Z sp) c6)).setCell ⟨h2,3,none⟩ (U Av (Z gs) cv)):=
    λr B=>cP (cP (cP (cP (D.out.rows r B) (KF r B) 0 _) (KF r B) 1 _) (KF r B) 2 _) (KF r B) 3 _
   refine bodyPost_ret (Gy h2 tm ty (U A6 (Z sp) c6) (U Av (Z gs) cv) _ _ N3 rfl) rfl ⟨db (db (db (db D.out.gb D.out.h2 0 _) D.out.h2 1 _) D.out.h2 2 _) D.out.h2 3 _,.inl ⟨by rw[<-KV.out],⟨tm,ty,sp,A6,c6,gs,Av,cv⟩,rfl,by rw[<-KV.out];rfl,KJ.out,?_,?_⟩⟩
   ·rw[<-KV.out]
    exact(((D.out.pr.far (p:=⟨h2,0,none⟩) KD _).far (p:=⟨h2,1,none⟩) KD _).far (p:=⟨h2,2,none⟩) KD _).far (p:=⟨h2,3,none⟩) KD _
   ·exact ar.cons Kt.tail.head (ar.cons Kt.head Kt.tail.tail.tail)
  |succ gk=>
   have Nr:((j:Int)<(L:Int)):=(by omega);have Nw:¬((j:Int)<0):=(by omega);have Lw:j<(aK f).length:=(by rw[HL.out];omega);obtain⟨nm,Lz⟩:∃x,(aK f)[j]=x:=⟨_,rfl⟩;have LW:nm∈aK f:=(by rw[<-Lz];exact List.getElem_mem Lw);obtain⟨ad,rfl,_,hc⟩:=(fG D.out.rows.tail.tail.head).int j Lw;rw[Lz] at hc;have Lb:(aK f).drop j=nm::(aK f).drop (j+1):=(by rw[<-Lz];exact List.drop_eq_getElem_cons Lw);have iP:=Mb.out;rw[Lb,gN] at iP;dsimp only at iP;have Mx:=O iP;have C1:=O (pW g A n c l q sv nm wr D.out.pr (KQ.out _ D.out.gb).2.2 hn hsz N1);have Kv:= @oK l q nm;obtain⟨⟨q1,e1⟩,Ku⟩:∃z,fP l q nm=z:=⟨_,rfl⟩;rw[Ku] at C1 Kv;have L5:=O Ku;have L7:=O Kv;have Nh:=O LW;have HJ:=O hj;have Nx:OQ.wrap ((j:Int)+1)=(j:Int)+1:=by have:=LI.out;rw[OP];omega
   have KR:Hid (∀e:Int,e≠0->(iV l f nm q).2.2=e->r=(⟨⟨0,0,[]⟩,[]⟩,0,e)):=O (λe he hg=>by
    have B:=MJ.out;rw[Mx.out,hg,if_neg he] at B;dsimp only at B;rw[if_neg he] at B;exact B.symm)
   clear hj Lw Lz Lb iP Ku Kv N1 LW Mb;go_wp2_with fail
   refine C1.out.mono ?_;rintro e w2 ⟨K3,(⟨cE,⟨u2,rfl⟩,gj⟩|⟨cE,bM,p',gj⟩)⟩
   case inr=>
    have Lt:(iV l f nm q).2.2=e1:=by
     unfold iV;rw[L5.out];dsimp only at cE⊢;rw[if_neg cE]
    have B:=KR.out e1 cE Lt;subst B;unfold ie at bM;subst bM;exact⟨rfl,D.out.gb.trans K3,.inr ⟨cE,rfl,p',gj⟩⟩
   dsimp only at cE gj;subst cE;have Lq:=O (D.out.go K3 gj);have Mp:q1<=8*n:=(by have:=(L7.out rfl).2;rw[hn] at this;exact this);obtain⟨⟨⟨qu,M⟩,q2,e2⟩,hh⟩:∃z,gM l q1=z:=⟨_,rfl⟩;have CG:=O (λW (h:Sl W A (l.map ag))=>D0 A n c l q1 W h HN.out L4.out Mp);have jg:= @xb l q1;rw[hh] at CG jg;have ME:=O hh;have Me:=O jg;have Nl:=O Mp;clear K3 gj hh jg Mp C1 L7 hc D;go_wp2_with fail
   obtain⟨av,Lc⟩:∃av,w2.heap.size=av:=⟨_,rfl⟩;have L8:Below w2.heap.size w2 (w2.alloc (OF (vZ nm 0 (U none 0 0) (U none 0 0)) 51)).drew:=((Below.refl _ _).alloc (OE _) _).drew;have KY:=O (Lq.out.below L8);have Lm:Hid (ab (w2.alloc (OF (vZ nm 0 (U none 0 0) (U none 0 0)) 51)).drew av 51 (vZ nm 0 (U none 0 0) (U none 0 0))):=O (aE (ab.new _ _ _) Lc);have Mf:=O (Gv Lq.out.rows (Nat.le_of_eq Lc));have L6:Hid (w.heap.size<=av):=O (by rw[<-Lc];exact Lq.out.gb.size);have LQ:Hid (av<(w2.alloc (OF (vZ nm 0 (U none 0 0) (U none 0 0)) 51)).drew.heap.size):=O Lm.out.lt;clear L8 Lq;have Mg:=O (aa.cons KY.out.pr (ai _));refine aP (λw'=>aa [(g,77,cF (U A n c) q1 sv)] w') 21 (OD 0 (OD 1 (OD 2 (OD 3 (OD 4 (OD 5 (OD 6 (OD 7 (OD 8 (OD 9 (OK 10 (OD 11 (OD 12 (OD 13 (OD 14 (OD 15 (OD 16 (OK 17 (OD 18 (OK 19 (OK 20 .done))))))))))))))))))))) (Mg.out) (λPE K6=>?_)
   iterate 10
    refine af (v:=?_) rfl (by rfl) ?_ ?_
    rotate_left
    ·intro _ cI;(try dsimp only at cI);have a:=cI.head;unfold cF at a;have a0:=a.cell 0;have a1:=a.cell 1;(try dsimp only at a0 a1);go_simp;(try with_reducible rfl)
    simp only[V,Y,J]
   refine aG (f:=88) rfl (by rfl) (by first|(go_simp;done)|(go_simp;rfl)) (CG.out _ (KQ.out _ KY.out.gb).2.2) ?_;rintro e4 w4 ⟨v6,rfl,aJ,I⟩;obtain⟨As,cs,Lk⟩:=bg I;subst Lk;have dO:=O (KY.out.below aJ);have C:=O (Lm.out.below aJ Lm.out.lt);have M4:(Value.slice As (Z M) cs).ownBlock≠some av:= λe=>absurd (Nat.lt_of_lt_of_le LQ.out (I.lt av e).1) (Nat.lt_irrefl _);have LP:=O M4;have LK:=O (cJ I KY.out.gb.size);have LN:=O (Mg.out.below aJ);clear aJ I M4 KY Lm Mg LQ;refine⟨_,rfl,_,λ_ h=>h,LN.out,?_⟩;simp only[V,Y,J]
   iterate 6
    refine af (v:=?_) rfl (by rfl) ?_ ?_
    rotate_left
    ·intro _ cI;(try dsimp only at cI);go_simp;(try with_reducible rfl)
    simp only[V,Y,J]
   have dy:=C.out;unfold vZ at dy;have k1:=dy.cell 1;have k2:=dy.cell 2;have k3:=dy.cell 3;have f1:=dy.frozen 1;have f2:=dy.frozen 2;have f3:=dy.frozen 3;(try dsimp only at k1 k2 k3 f1 f2 f3);have KN:=O (C.out.set_ 1 (OB OA qu));have KZ:=O (dO.out.off C.out (.inl rfl) L6.out Mf.out 1 (OB OA qu));have LL:=O (cP LK.out LP.out 1 (OB OA qu));have Kx:=KN.out.set_ 2 (U As (Z M) cs);have N2:=KZ.out.off KN.out (.inl rfl) L6.out Mf.out 2 (U As (Z M) cs);have LZ:=cP LL.out LP.out 2 (U As (Z M) cs);unfold vZ at Kx;simp only[V,Y,J] at Kx;have Ln:=O Kx;have T:=O N2;have KW:=O LZ;clear dy Kx N2 LZ;refine bD _ (w':=?_) rfl (by rfl) ?_ ?_ ?_;rotate_left 1
   ·go_simp;(first|(with_reducible rfl)|(constructor<;>with_reducible rfl)|skip)
   ·exact aa.cons KZ.out.pr (ai _)
   refine af (v:=?_) rfl (by rfl) ?_ ?_;rotate_left
   ·intro _ cI;(try dsimp only at cI);go_simp;(try with_reducible rfl)
   simp only[V,Y,J];refine bD _ (w':=?_) rfl (by rfl) ?_ ?_ ?_;rotate_left 1
   ·go_simp;(first|(with_reducible rfl)|(constructor<;>with_reducible rfl)|skip)
   ·exact aa.cons T.out.pr (ai _)
   refine aj (v:=?_) (w':=?_) rfl (by rfl) ?_ ?_ ?_;rotate_left 2
   ·go_simp;(try (constructor<;>with_reducible rfl))
   ·exact aa.cons T.out.pr (ai _)
   simp only[V,Y,J];refine K6 _ _ ?_;clear K6 PE;simp only[OI,OM];go_wp2_with fail
   refine⟨rfl,?_⟩;clear k1 k2 k3 f1 f2 LN C dO LK KN KZ LL;generalize (w4.setCell ⟨av,1,none⟩ (OB OA qu)).setCell ⟨av,2,none⟩ (U As (Z M) cs)=w5 at Ln T KW f3⊢
   by_cases eE:e2=0
   case neg=>
    have Lt:(iV l f nm q).2.2=jw e2:=by
     unfold iV;rw[L5.out];dsimp only;rw[if_pos rfl,ME.out];dsimp only;rw[if_neg eE]
    have B:=KR.out (jw e2) (jk eE) Lt;subst B;have Ma:=O eE;have M9:=O (jk eE);generalize kb (q2,e2) q1=mm;clear eE Lt;go_wp2_with fail
    refine(dM g mm e2 Ma.out _).mono ?_;rintro e7 w7 ⟨bM,rfl⟩;unfold ie at bM;subst bM;exact⟨rfl,T.out.gb,.inr ⟨M9.out,rfl,q1,T.out.pr⟩⟩
   subst eE;have LB:=(Me.out rfl).2.2.2.2;(try dsimp only at LB);rw[hn] at LB;have Lg:kb (q2,0) q1=(q2:Int) - (q1:Int):=(by unfold kb;rw[if_pos rfl]);rw[Lg];have Ll:OQ.wrap ((q1:Int)+((q2:Int) - (q1:Int)))=(q1:Int)+((q2:Int) - (q1:Int)):=(by have:=Nl.out;have:=L4.out;rw[OP];omega);have MR:=O Ll;have MI:=O LB;clear Lg Ll LB;go_wp2_with fail
   refine(eZ g (U A n c) sv q1 ((q2:Int) - (q1:Int)) _ T.out.pr MR.out).mono ?_;rintro e5 w6 ⟨⟨u5,rfl⟩,LF⟩;rw[show (q1:Int)+((q2:Int) - (q1:Int))=(q2:Int) by omega] at LF;have Kz:w5.grownBy w6 (some g):=(by rw[LF];exact gY _ _ _ _);have N:=O (T.out.go Kz (show ab w6 g 77 (cF (U A n c) q2 sv) by rw[LF];exact mu T.out.pr q2));have M7:=O (i7 Ln.out Kz (aT Ln.out T.out.pr (by decide)));have LM:=O (rT KW.out Kz T.out.pr (by decide));clear LF Kz f3 Ln T KW;have CM:=O (vT g A n c l q2 sv f nm w6 N.out.pr (KQ.out.to N.out.gb) HN.out L4.out MI.out LG.out Nh.out);obtain⟨⟨ml,q3,e3⟩,Ml⟩:∃z,ce l f nm (8*Z l+1) q2 bE=z:=⟨_,rfl⟩;have K9:= @ol l f nm (8*Z l+1) q2 bE (by rw[hn];exact MI.out) (by decide);rw[Ml] at CM K9;have Nb:=O Ml;have MD:=O K9
   have LV:iV l f nm q=if e3=0 then(⟨nm,qu,M,ml⟩,q3,0) else(⟨0,0,[],[]⟩,0,e3):=by
    unfold iV;rw[L5.out];dsimp only;rw[if_pos rfl,ME.out];dsimp only;rw[if_pos rfl,Nb.out]
   have LH:=O LV;clear Ml K9 LV;go_wp2_with fail
   refine CM.out.mono ?_;rintro e7 w7 ⟨Ld,(⟨KL,mv,es,rfl,Mm,iP,K4,fJ⟩|⟨KL,bM,p',K4⟩)⟩
   case inr=>
    have B:=KR.out e3 KL (by rw[LH.out,if_neg KL]);subst B;unfold ie at bM;subst bM;exact⟨rfl,N.out.gb.trans Ld,.inr ⟨KL,rfl,p',K4⟩⟩
   (try dsimp only at KL Mm K4);subst KL;have LC:=(MD.out rfl).2.2;(try dsimp only at LC);rw[hn] at LC;obtain⟨Am,cm,N5⟩:=bg fJ.head;dsimp only at N5;subst N5;have Le:=N.out.gb.size;have Lr:=O (N.out.go Ld K4);have KO:=O (i7 M7.out Ld (aT M7.out N.out.pr (by decide)));have KX:=O (rT LM.out Ld N.out.pr (by decide));have LJ:Hid (ar (⟨w.heap.size,55,7,U Am (Z es) cm,Z es,az eX es⟩::iN w.heap.size es) w7):=O (ar.cons (cJ fJ.head Le) (uS fJ.tail Le));have My:=O iP;have Ng:=O Mm;have Nm:=O LC;clear Ld K4 fJ Mm iP LC Le CM N M7 LM;have La:=KO.out;unfold vZ at La;have f3:=La.frozen 3;have k3:=La.cell 3;(try dsimp only at f3 k3);have K8:=La.set_ 3 (U Am (Z es) cm);simp only[V,Y,J] at K8;have Nv:=O K8;have MN:=O (Lr.out.off KO.out (.inl rfl) L6.out Mf.out 3 (U Am (Z es) cm));have ML:=O (cP KX.out (ba KX.out KO.out (by decide)) 3 (U Am (Z es) cm));have MF:=O (cr LJ.out KO.out (ql (by decide) (by decide) (by decide)) 3 (U Am (Z es) cm));have i0:=K8.cell 0;have i1:=K8.cell 1;have i2:=K8.cell 2;have i3:=K8.cell 3;have i4:=MN.out.sh.cell 3;(try dsimp only at i0 i1 i2 i3 i4);clear La K8 Lr KO KX LJ;obtain⟨G,hG⟩:∃G:cQ,(⟨nm,qu,M,As,cs,es,Am,cm⟩:cQ)=G:=⟨_,rfl⟩;have MU:fV G=[OB OA nm,OB OA qu,U As (Z M) cs,U Am (Z es) cm]:=(by rw[<-hG];rfl);have N8:=O MU;have Md:=O hG;clear MU hG;have rG:Below (w7.setCell ⟨av,3,none⟩ (U Am (Z es) cm)).heap.size (w7.setCell ⟨av,3,none⟩ (U Am (Z es) cm)) ((w7.setCell ⟨av,3,none⟩ (U Am (Z es) cm)).alloc (OF #[OB OA nm,OB OA qu,U As (Z M) cs,U Am (Z es) cm] 51)):=(Below.refl _ _).alloc (OE _) _;have jY:=O (MN.out.below rG);have MM:=O (bL ML.out rG (OE _));have MG:=O (fL MF.out rG);have kA:((w7.setCell ⟨av,3,none⟩ (U Am (Z es) cm)).alloc (OF #[OB OA nm,OB OA qu,U As (Z M) cs,U Am (Z es) cm] 51)).ownsRow w.heap.size 51 4 (U Av (Z gs) cv) (Z gs) (az fV gs):=jY.out.rows.head;have KT:=O kA;have Mw:Hid ((Z gs+1)*64<=140737488355328):=O (by have:=Mz.out;have:=LI.out;have:=HJ.out;omega);have Mv:=O jY.out.gb.size;clear rG kA;go_wp2_with (at_builtin;refine dA JM rfl rfl rfl KT.out rfl (m:=1) (news:=[OB OA nm,OB OA qu,U As (Z M) cs,U Am (Z es) cm]) rfl (by have h:=ab.sl (ab.new (w7.setCell ⟨av,3,none⟩ (U Am (Z es) cm)) 51 #[OB OA nm,OB OA qu,U As (Z M) cs,U Am (Z es) cm]) 0;rw[World.size_setCell] at h;exact h) (by intro u hu;simp only[OG,OX,or_false] at hu;rcases hu with rfl|rfl|rfl|rfl<;>rfl) Mw.out Mv.out ?_;intro v9 w9 Mn Mk _;obtain⟨Ax,cx,Nu⟩:=bg Mn;subst Nu;have Ni:=O Mn;have Mc:=O Mk;have KH:=jY.out.sh.grown Mk (ba KT.out jY.out.sh (by decide));have L0:=O KH;have x3:=KH.cell 3;have y3:=KH.frozen 3;(try dsimp only at x3 y3);clear Mn Mk KH)
   go_roundg gk
   case measure=>omega
   case rel=>
    have MZ:(gs++[G]).length=Z gs+1:=(by rw[OJ,OL]);have kA:=KT.out;have hk:∀R:List a9,ar R ((w7.setCell ⟨av,3,none⟩ (U Am (Z es) cm)).alloc (OF #[OB OA nm,OB OA qu,U As (Z M) cs,U Am (Z es) cm] 51))->(∀r∈R,r.e≠51)->ar R w9:= λR hR Ns r B=>(hR r B).kept Mc.out (qq kA (hR r B) (Ne.symm (Ns r B)));have MX:jc w.heap.size (gs++[G])=jc w.heap.size gs++tw w.heap.size G:=by unfold jc;rw[OS];simp
    have Nt:ar (tw w.heap.size G) w9:=by
     rw[<-Md.out];exact ar.cons (hk [⟨w.heap.size,5,1,U As (Z M) cs,Z M,M.map ag⟩] (ar.cons MM.out (aF _)) (by intro r B;rw[ON] at B;subst B;dsimp only;decide)).head (hk _ MG.out (ql (by decide) (by decide) (by decide)))
    have Mq:=hk _ jY.out.rows.tail (by
     intro r B;rcases OG.1 B with rfl|B
     ·dsimp only;decide
     rcases OG.1 B with rfl|B
     ·dsimp only;decide
     ·rcases tx r B with h|h|h|h<;>rw[h]<;>decide)
    have LE:ar (⟨w.heap.size,51,4,U Ax (Z gs+1) cx,(gs++[G]).length,az fV (gs++[G])⟩::⟨w.heap.size,5,1,U A6 (Z sp) c6,Z sp,sp.map ag⟩::⟨w.heap.size,3,1,U (some ad) L cl,L,(aK f).map aH⟩::jc w.heap.size (gs++[G])) w9:=by
     refine ar.cons ?_ (ar.cons Mq.head (ar.cons Mq.tail.head ?_))
     ·rw[MZ,gR,fX,N8.out]
      exact Ni.out
     ·rw[MX]
      exact Mq.tail.tail.app Nt
    have Lj:=L0.out.set_ 3 (U Ax (Z gs+1) cx);simp only[V,Y,J] at Lj;have LY:=jY.out.pr.grown Mc.out (ba kA jY.out.pr (by decide));refine⟨j+1,q3,gs++[G],U Ax (Z gs+1) cx,by have:=HJ.out;omega,rfl,Nm.out,by rw[MZ,Mz.out],O ⟨db (wZ jY.out.gb Mc.out (λk e=>(kA.lt k e).1)) jY.out.h2 3 _,LY.far (p:=⟨h2,3,none⟩) (aT LY L0.out (by decide)) _,Lj,jY.out.h2,?_,rfl⟩,O ?_,O ?_⟩
    ·exact cr LE L0.out (ym rfl (by decide) (by decide) (by decide) (by decide) (by decide) (by decide)) 3 _
    ·have Nq:iV l f nm q=(⟨nm,qu,M,ml⟩,q3,0):=by
      have h:=LH.out
      simpa using h
     rw[Mx.out,Nq]
     dsimp only
     rw[if_pos rfl,OZ,OU,<-Md.out]
     unfold cQ.g
     dsimp only
     rw[Ng.out]
     simp
    ·intro y hy
     rcases Oa.1 hy with hy|hy
     ·exact KJ.out y hy
     ·rw[ON] at hy
      subst hy;rw[<-Md.out];exact My.out
def wn (h g B:Nat) (o x C j:Value) (p:Nat):List aM:=[(h,22,#[o]),(h+1,26,#[x]),(g,77,cF j p C),(B,73,#[OC (some ⟨g,0,none⟩)])]
theorem BF (h g I:Nat)(o x bv:Value)(G:Option Addr)(ns B:Nat)(p:Nat)(W:World)(j:aa (wn h g I o x (U G ns B) bv p) W):
  CallsD OH 45 #[OC (some ⟨I,0,none⟩),OC (some ⟨h,0,none⟩),OC (some ⟨h+1,0,none⟩)] .returning W λe u' W'=>e=Oc (OW #[])/\u'= .returning/\W'=W.setCell ⟨h,0,none⟩ (U G ns B):=by
 unfold wn cF at j;have K:=j.head.cell 0;have M:=j.head.frozen 0;have N:=j.tail.tail.head.cell 2;have T:=j.tail.tail.tail.head.cell 0;(try dsimp only at K M N T);clear j;refine callsD_of_wpS Of rfl λC cs D=>?_;apply wpS_seq;apply wpS_region;simp[wpOpsS,go_sem,recoverD,D,Od,Exit.thenS,K,M,N,T];apply wpS_seq;apply wpS_region;simp[wpOpsS,go_sem,recoverD,D,Exit.thenS];apply wpS_seq;apply wpS_region;simp[wpOpsS,go_sem,recoverD,D,Exit.thenS];refine wpS_cond (t:=false) (by simp[Act.eval,Array.replicate]) ?_;simp only[OT,if_false];refine wpS_of_wp (wp_skip ?_)
 cases C
 simp_all [bodyPostS,results,Ob]
theorem rM (h g M:Nat)(o x bv:Value)(G:Option Addr)(ns B:Nat)(p:Nat)(er:Int)(j:List PanicEntry)(W:World)(C:aa (wn h g M o x (U G ns B) bv p) W):
  CallsD OH 45 #[OC (some ⟨M,0,none⟩),OC (some ⟨h,0,none⟩),OC (some ⟨h+1,0,none⟩)] (.panicking ({v:= .iface 79 (Og #[OB OA er]),recovered:=false}::j)) W λe u' W'=>
   e=Oc (OW #[])/\u'= .panicking ({v:= .iface 79 (Og #[OB OA er]),recovered:=true}::j)/\W'=((W.setCell ⟨h,0,none⟩ (U G ns B)).alloc (OF #[OB OA er] 79)).setCell ⟨h+1,0,none⟩ (OB OA er):=by
 have I:∀W:World,Sem.run OH (Instr.typeAssert (Value.iface 79 (Value.agg #[Value.int OQ er])) 20 79 true) W= .ok (OW #[Og #[OB OA er],.bool true]) W:= λW=>by rfl
 have N:=C.tail.head;have D:=(N.far (p:=⟨h,0,none⟩) (by simp) (U G ns B)).alloc (OF #[OB OA er] 79);have y0:=D.cell 0;have y1:=D.frozen 0;unfold wn cF at C;have z0:=C.head.cell 0;have z1:=C.head.frozen 0;have z2:=C.tail.tail.head.cell 2;have z3:=C.tail.tail.tail.head.cell 0;(try dsimp only at z0 z1 z2 z3 y0 y1);clear C N D;refine callsD_of_wpS Of rfl λK cs T=>?_;apply wpS_seq;apply wpS_region;simp[wpOpsS,go_sem,recoverD,T,Od,Exit.thenS,z0,z1,z2,z3];apply wpS_seq;apply wpS_region;simp[wpOpsS,go_sem,recoverD,T,Exit.thenS];apply wpS_seq;apply wpS_region;simp[wpOpsS,go_sem,recoverD,Exit.thenS];refine wpS_cond (t:=true) (by simp[Act.eval,Array.replicate]) ?_;simp only[if_true];apply wpS_seq;apply wpS_region;simp[wpOpsS,go_sem,recoverD,Exit.thenS,I];apply wpS_seq;apply wpS_seq;apply wpS_region;simp[wpOpsS,go_sem,recoverD,Exit.thenS];refine wpS_cond (t:=false) (by simp[Act.eval,Array.replicate]) ?_;simp only[OT,if_false];refine wpS_of_wp (wp_skip ?_);simp only[Exit.thenS];apply wpS_region;simp[wpOpsS,go_sem,recoverD,y0,y1];simp[bodyPostS,results,Ob]
theorem Dh {l:List UInt8}{p:Nat}(h:(fM l p).2.2=0):p+20<=(fM l p).2.1/\(fM l p).2.1<=8*(Z l):=by
 obtain⟨_,b,c⟩:=yk h;have:20<=(eN (fM l p).1).length:=by unfold eN;rw[OJ,jh];omega
 exact⟨by omega,c⟩
structure i6 (w:World) (h g h3:Nat) (bv:Value) (p:Nat) (v:Value) (ss:List a8) (W:World):Prop where
 be:Below w.heap.size w W
 cs:aa (wn h g h3 (U none 0 0) (OB OA 0) v bv p) W
 lo:w.heap.size<=h/\w.heap.size<=g
 rows:ar (⟨w.heap.size,35,4,v,Z ss,az eu ss⟩::lI w.heap.size ss) W
theorem kh {B:Nat}{v:Value}{C:List a8}{t:TypeId}(D:t≠35)(G:t≠51)(h2:t≠5)(I:t≠55)(K:t≠93)(M:t≠189):
  ∀r∈(⟨B,35,4,v,Z C,az eu C⟩::lI B C:List a9),r.e≠t:=by
 intro r j;rcases OG.1 j with rfl|j
 ·exact Ne.symm D
 ·rcases Br r j with h|h|h|h|h<;>rw[h]
  ·exact Ne.symm G
  ·exact Ne.symm h2
  ·exact Ne.symm I
  ·exact Ne.symm K
  ·exact Ne.symm M
section
variable {w:World} {h g h3:Nat} {bv:Value} {p:Nat} {v:Value} {ss:List a8} {W W':World}
theorem i6.pr (k:i6 w h g h3 bv p v ss W):ab W g 77 (cF bv p v):=k.cs.tail.tail.head
theorem i6.pc (k:i6 w h g h3 bv p v ss W):ab W h3 73 #[OC (some ⟨g,0,none⟩)]:=k.cs.tail.tail.tail.head
theorem i6.ou (k:i6 w h g h3 bv p v ss W):ab W h 22 #[U none 0 0]:=k.cs.head
theorem i6.er (k:i6 w h g h3 bv p v ss W):ab W (h+1) 26 #[OB OA 0]:=k.cs.tail.head
theorem i6.go (k:i6 w h g h3 bv p v ss W){q:Nat}(j:W.grownBy W' (some g))(B:ab W' g 77 (cF bv q v)):i6 w h g h3 bv q v ss W':=
 ⟨rU k.be j k.be.size k.lo.2,aa.cons (i7 k.ou j (aT k.ou k.pr (by decide))) (aa.cons (i7 k.er j (aT k.er k.pr (by decide))) (aa.cons B (aa.cons (i7 k.pc j (aT k.pc k.pr (by decide))) (ai _)))),k.lo,
  Bp k.rows k.pr j (kh (by decide) (by decide) (by decide) (by decide) (by decide) (by decide))⟩
end
theorem JO:eU OH 22 35 4 64:= .mk' (z:=Og #[OB OA 0,OB OA 0,U none 0 0,U none 0 0]) (by kernel_rfl) (by kernel_rfl) rfl (by decide) (by decide)
def ta (r:List ez×Int) (w:World) (e:Ending) (w':World):Prop:=
 ∃A c j,e=Oc (OW #[U A (Z j) c,OB OA r.2])/\j.map (·.s)=r.1/\(∀s∈j,nN s)/\Below w.heap.size w w'/\ar (⟨w.heap.size,35,4,U A (Z j) c,Z j,az eu j⟩::lI w.heap.size j) w'
theorem i6.ret {w:World}{h g j:Nat}{B:Value}{p:Nat}{v:Value}{G:List a8}{W:World}(k:i6 w h g j B p v G W):i6 w h g j B p v G ((W.setCell ⟨h,0,none⟩ (U none 0 0)).setCell ⟨h+1,0,none⟩ (OB OA 0)):=by
 have o:=k.ou;have e:=k.er;have q:=k.pr;have c:=k.pc;have n1:h+1≠h:=by omega
 have n2:g≠h:=aT q o (by decide);have n3:g≠h+1:=aT q e (by decide);have I:j≠h:=aT c o (by decide);have K:j≠h+1:=aT c e (by decide);have D:=(o.set_ 0 (U none 0 0)).far (p:=⟨h+1,0,none⟩) (Ne.symm n1) (OB OA 0);have C:=(e.far (p:=⟨h,0,none⟩) n1 (U none 0 0)).set_ 0 (OB OA 0);have q1:=(q.far (p:=⟨h,0,none⟩) n2 (U none 0 0)).far (p:=⟨h+1,0,none⟩) n3 (OB OA 0);have c1:=(c.far (p:=⟨h,0,none⟩) I (U none 0 0)).far (p:=⟨h+1,0,none⟩) K (OB OA 0);simp only[V,Y] at D C
 exact⟨(k.be.setCell (p:=⟨h,0,none⟩) k.lo.1 _).setCell (p:=⟨h+1,0,none⟩) (OV k.lo.1 (Oe _)) _,aa.cons D (aa.cons C (aa.cons q1 (aa.cons c1 (ai _)))),k.lo,
  cr (cr k.rows o (kh (by decide) (by decide) (by decide) (by decide) (by decide) (by decide)) _ _) (e.far (p:=⟨h,0,none⟩) n1 (U none 0 0)) (kh (by decide) (by decide) (by decide) (by decide) (by decide) (by decide)) _ _⟩
theorem i6.app {w:World}{h g N:Nat}{M:Value}{p:Nat}{v:Value}{C:List a8}{W D:World}{s:a8}{K:Value}(k:i6 w h g N M p v C W)(hs:ar (oB w.heap.size s) W)(I:W.grownBy D v.ownBlock)(ho:D.ownsRow w.heap.size 35 4 K (Z C+1) (az eu C++eu s)):
  ab D g 77 (cF M p v)/\ab D N 73 #[OC (some ⟨g,0,none⟩)]/\i6 w h g N M p K (C++[s]) (D.setCell ⟨g,2,none⟩ K):=by
 have B:W.ownsRow w.heap.size 35 4 v (Z C) (az eu C):=k.rows.head;have q:=k.pr.grown I (ba B k.pr (by decide));have c:=k.pc.grown I (ba B k.pc (by decide));have o:=k.ou.grown I (ba B k.ou (by decide));have e:=k.er.grown I (ba B k.er (by decide));have hk:∀R:List a9,ar R W->(∀r∈R,r.e≠35)->ar R D:= λR hR bM r G=>(hR r G).kept I (qq B (hR r G) (Ne.symm (bM r G)));have aJ:(C++[s]).length=Z C+1:=by rw[OJ,OL]
 have T:ar (⟨w.heap.size,35,4,K,(C++[s]).length,az eu (C++[s])⟩::lI w.heap.size (C++[s])) D:=by
  refine ar.cons ?_ ?_
  ·rw[aJ,gR,fX]
   exact ho
  ·have av:lI w.heap.size (C++[s])=lI w.heap.size C++oB w.heap.size s:=by unfold lI;rw[OS];simp
   rw[av];exact(hk _ k.rows.tail (by intro r G;rcases Br r G with h|h|h|h|h<;>rw[h]<;>decide)).app (hk _ hs (by intro r G;rcases EO r G with h|h|h|h|h<;>rw[h]<;>decide))
 have q1:=q.set_ 2 K;unfold cF at q1;simp only[V,Y,J] at q1
 refine⟨q,c,(k.be.grown I k.be.size (λj e=>(B.lt j e).1)).setCell (p:=⟨g,2,none⟩) k.lo.2 _,aa.cons (o.far (p:=⟨g,2,none⟩) (aT o q (by decide)) _) (aa.cons (e.far (p:=⟨g,2,none⟩) (aT e q (by decide)) _) (aa.cons q1 (aa.cons (c.far (p:=⟨g,2,none⟩) (aT c q (by decide)) _) (ai _)))),k.lo,
  cr T q (kh (by decide) (by decide) (by decide) (by decide) (by decide) (by decide)) _ _⟩
theorem Gx (s:a8):∀u∈eu s,u.oneCell'=true:=by
 intro u j;simp only[eu,OG,OX,or_false] at j;rcases j with rfl|rfl|rfl|rfl<;>rfl
theorem EP {B I:Nat}{s:a8}{W:World}(h:ar (oB B s) W)(C:I<=B):ar (oB I s) W:=by
 intro r D;rcases OG.1 D with rfl|D
 ·exact cJ h.head C
 rcases OG.1 D with rfl|D
 ·exact cJ h.tail.head C
 obtain⟨p,K,j⟩:=List.mem_flatMap.1 D;have G:=uy h.tail.tail K;rcases OG.1 j with rfl|j
 ·exact cJ G.head C
 rcases OG.1 j with rfl|j
 ·exact cJ G.tail.head C
 exact uS G.tail.tail C r j
def Jg (h j:Nat):List Deferred:=[{target:= .fn (Fn.func 45) #[OC (some ⟨j,0,none⟩),OC (some ⟨h,0,none⟩),OC (some ⟨h+1,0,none⟩)],args:= #[]}]
theorem xH {w:World}{h g C:Nat}{I:Value}{p:Nat}{v:Value}{j:List a8}{W:World}{r:List ez×Int}{tmps:Array Value}(k:i6 w h g C I p v j W)(T:j.map (·.s)=r.1)(he:r.2=0)(N:∀s∈j,nN s) (t2:tmps.getD 2 undef=OC (some ⟨h,0,none⟩)) (t3:tmps.getD 3 undef=OC (some ⟨h+1,0,none⟩)):
  Leaves OH OY tmps (ta r w) (Jg h C) .returning W:=by
 obtain⟨B,cs,K⟩:=bg k.rows.head;dsimp only at K;subst K;refine leaves_cons (f:=45) (args:= #[OC (some ⟨C,0,none⟩),OC (some ⟨h,0,none⟩),OC (some ⟨h+1,0,none⟩)]) (by simp) (by simp[go_sem]) ?_;refine(BF h g C _ _ I B (Z j) cs p W k.cs).mono ?_;rintro e u W' ⟨rfl,rfl,rfl⟩;have n1:h+1≠h:=by omega
 have o1:=k.ou.set_ 0 (U B (Z j) cs);have M:=k.er.far (p:=⟨h,0,none⟩) n1 (U B (Z j) cs);have c0:=o1.cell 0;have c1:=M.cell 0;(try dsimp only at c0 c1);have D:tmps[2]?.getD undef=OC (some ⟨h,0,none⟩):=by simpa using t2
 have G:tmps[3]?.getD undef=OC (some ⟨h+1,0,none⟩):=by simpa using t3
 refine⟨OW #[U B (Z j) cs,OB OA 0],?_,B,cs,j,by rw[he],T,N,k.be.setCell (p:=⟨h,0,none⟩) k.lo.1 _,cr k.rows k.ou (kh (by decide) (by decide) (by decide) (by decide) (by decide) (by decide)) _ _⟩;simp[results,OR,D,G,asAddr,c0,c1,go_sem]
theorem Eo {w:World}{h g C:Nat}{I:Value}{p:Nat}{v:Value}{j:List a8}{W:World}{r:List ez×Int}{tmps:Array Value}(k:i6 w h g C I p v j W)(hs:j.map (·.s)=r.1)(T:∀s∈j,nN s) (t2:tmps.getD 2 undef=OC (some ⟨h,0,none⟩)) (t3:tmps.getD 3 undef=OC (some ⟨h+1,0,none⟩)):
  Leaves OH OY tmps (ta r w) (Jg h C) (.panicking [{v:= .iface 79 (Og #[OB OA r.2]),recovered:=false}]) W:=by
 obtain⟨B,cs,M⟩:=bg k.rows.head;dsimp only at M;subst M;refine leaves_cons (f:=45) (args:= #[OC (some ⟨C,0,none⟩),OC (some ⟨h,0,none⟩),OC (some ⟨h+1,0,none⟩)]) (by simp) (by simp[go_sem]) ?_;refine(rM h g C _ _ I B (Z j) cs p r.2 [] W k.cs).mono ?_;rintro e u W' ⟨rfl,rfl,rfl⟩;have n1:h+1≠h:=by omega
 have o1:=((k.ou.set_ 0 (U B (Z j) cs)).alloc (OF #[OB OA r.2] 79));have K:=((k.er.far (p:=⟨h,0,none⟩) n1 (U B (Z j) cs)).alloc (OF #[OB OA r.2] 79));have N:=K.set_ 0 (OB OA r.2);have o2:=o1.far (p:=⟨h+1,0,none⟩) (Ne.symm n1) (OB OA r.2);have c0:=o2.cell 0;have c1:=N.cell 0;(try dsimp only at c0 c1);have D:tmps[2]?.getD undef=OC (some ⟨h,0,none⟩):=by simpa using t2
 have G:tmps[3]?.getD undef=OC (some ⟨h+1,0,none⟩):=by simpa using t3
 have r1:=cr k.rows k.ou (kh (by decide) (by decide) (by decide) (by decide) (by decide) (by decide)) 0 (U B (Z j) cs);have r2:=fL r1 ((Below.refl _ _).alloc (OE _) (OF #[OB OA r.2] 79));have r3:=cr r2 K (kh (by decide) (by decide) (by decide) (by decide) (by decide) (by decide)) 0 (OB OA r.2);refine⟨OW #[U B (Z j) cs,OB OA r.2],?_,B,cs,j,rfl,hs,T,((k.be.setCell (p:=⟨h,0,none⟩) k.lo.1 _).alloc (by have:=k.be.size;simpa using this) _).setCell (p:=⟨h+1,0,none⟩) (OV k.lo.1 (Oe _)) _,r3⟩;simp[results,OR,D,G,asAddr,c0,c1,go_sem]
theorem Jy {j:Array Oper}{R:Ending->World->Prop}(h:(j.toList.all λo=>o.dst !=some 2&&o.dst !=some 3)=true)(c:List PanicEntry)(a:Act)(o:Oper)(v:Value)(w:World)(I:o∈j.toList)(C:bodyPostD OH OY R (.panic c) (a.put o.dst v) w):bodyPostD OH OY R (.panic c) a w:=by
 have B:=List.all_eq_true.1 h o I;simp only[Bool.and_eq_true,bne_iff_ne,ne_eq] at B;unfold bodyPostD at C⊢;have hd:(a.put o.dst v).defers=a.defers:=by cases o.dst<;>rfl
 dsimp only at C⊢;rw[hd] at C;refine ni ?_ _ _ _ C
 cases D:o.dst with
 |none=>rfl
 |some d=>
  rw[D] at B;have h2:d≠2:= λe=>B.1 (by rw[e]);have G:d≠3:= λe=>B.2 (by rw[e]);simp[results,OR,Act.put,Array.getElem?_setIfInBounds,h2,G]
theorem yv (A:Option Addr)(n c:Nat)(l:List UInt8)(w:World)(hE:∀W,Below w.heap.size w W->Tz W/\Ts W/\Sl W A (l.map ag)) (hn:Z l=n) (hsz:n<=2 ^ 40):
  Calls OH 19 #[U A n c] w (ta (gZ l) w):=by
 have Hl:=O hE;have HN:=O hn;have gj:=O hsz;obtain⟨r,j⟩:∃r,gZ l=r:=⟨_,rfl⟩;rw[j];have HR:=O j;obtain⟨h,hh⟩:∃h,w.heap.size=h:=⟨_,rfl⟩;have HH:=O hh;have KD:∀(fn:Fn)(first K0:Array Value)(w:World),(Instr.makeFunc fn first K0).run OH w= .ok (.func fn first K0) w:= λ_ _ _ _=>rfl;clear hE j
 have G:i6 w h (h+1+1) (h+1+1+1) (U A n c) 0 (U none 0 0) [] ((((w.alloc (OF #[U none 0 0] 22)).alloc (OF #[OB OA 0] 26)).alloc (OF (cF (U A n c) 0 (U none 0 0)) 77)).alloc (OF #[OC (some ⟨h+1+1,0,none⟩)] 73)):=by
  have s1:(w.alloc (OF #[U none 0 0] 22)).heap.size=h+1:=(by simp[hh]);have s2:((w.alloc (OF #[U none 0 0] 22)).alloc (OF #[OB OA 0] 26)).heap.size=h+1+1:=(by simp[hh]);have s3:(((w.alloc (OF #[U none 0 0] 22)).alloc (OF #[OB OA 0] 26)).alloc (OF (cF (U A n c) 0 (U none 0 0)) 77)).heap.size=h+1+1+1:=(by simp[hh]);refine⟨((((Below.refl _ _).alloc (OE _) _).alloc (by rw[s1];omega) _).alloc (by rw[s2];omega) _).alloc (by rw[s3];omega) _,?_,⟨by omega,by omega⟩,ar.cons (OO _ _ _ _) (aF _)⟩;exact aa.cons ((((aE (ab.new _ _ _) hh).alloc _).alloc _).alloc _) (aa.cons (((aE (ab.new _ _ _) s1).alloc _).alloc _) (aa.cons ((aE (ab.new _ _ _) s2).alloc _) (aa.cons (aE (ab.new _ _ _) s3) (ai _))))
 unfold cF at G;simp only[Int.natCast_zero] at G;obtain⟨g,hg⟩:∃g,h+1+1=g:=⟨_,rfl⟩;obtain⟨h3,cE⟩:∃h3,g+1=h3:=⟨_,rfl⟩;rw[hg] at G;rw[cE] at G;have C:=O G;have HG:=O hg;have KB:=O cE;clear G
 go_enter_defers Tryz.func19,Tryz.ntmps19
 go_wp2_with fail
 (try rw[hg]);(try rw[cE]);clear hg cE hh;generalize ((((w.alloc (OF #[U none 0 0] 22)).alloc (OF #[OB OA 0] 26)).alloc (OF #[U A n c,OB OA 0,U none 0 0] 77)).alloc (OF #[OC (some ⟨g,0,none⟩)] 73))=W1 at C⊢;have jg:∀W X,Below w.heap.size w W->W.grownBy X (some g)->Tz X/\Ts X/\Sl X A (l.map ag):= λW X hb hx=>Hl.out X (rU hb hx hb.size C.out.lo.2);have dO:=O jg;refine(zV g A n c l (U none 0 0) W1 C.out.pr (Hl.out _ C.out.be).2.2 (λW hW=>(dO.out _ W C.out.be hW).2.2) hn hsz).mono ?_;rintro e w2 ⟨bM,(⟨hf,rfl,p',N⟩|⟨q,hf,K9,rfl,N⟩)⟩
 ·have B:=C.out.go bM N
  have j:=HR.out;unfold gZ at j;rw[hf] at j;have eE:=O B;have c0:=B.ou.frozen 0;have c1:=B.er.frozen 0;have c2:=B.ou.cell 0;have c3:=B.er.cell 0;clear hf bM N B jg C;go_wp2_with fail
  exact xH eE.out.ret (by rw[<-j];rfl) (by rw[<-j]) (λs hs=>by cases hs) rfl rfl
 have eE:=O (C.out.go bM N);have j:=HR.out;unfold gZ at j;rw[hf] at j;dsimp only at j;have Kw:=O j;have Ht:=O (show q<=8*n by rw[<-hn];exact K9);have KA:Hid (n<=2 ^ 47):=O (by omega);clear hf bM N jg C j K9;go_wp2_with fail
 go_loopg [] (8*n+1 - q) (λgk=> λwr=>∃(k p:Nat)(v:Value)(I:List a8),p+gk=8*n+1/\p<=8*n/\Hid (8*n<p+k)/\Hid (r=(I.map (·.s)++(jK l k p).1,(jK l k p).2))/\Hid (i6 w h g h3 (U A n c) p v I wr)/\Hid (20*Z I<=p)/\Hid (∀s∈I,nN s))
 case atStart=>exact⟨8*Z l+1,q,U none 0 0,[],by have:=Ht.out;omega,Ht.out,O (by have:=HN.out;omega),O (by rw[Kw.out];rfl),eE,O (Nat.zero_le _),O (λm hm=>by cases hm)⟩
 case round=>
  obtain⟨k,p,v,I,K8,av,HK,HE,HS,HX,HQ⟩:=hrel;obtain⟨k,rfl⟩:∃k',k=k'+1:=⟨k - 1,by have:=HK.out;omega⟩;obtain⟨Av,cv,hv⟩:=bg HS.out.rows.head;dsimp only at hv;subst hv;have K6:=HS.out.pc.cell 0;(try dsimp only at K6);have KC:=O K6;have CO:=O (qW g A n c l p (U Av (Z I) cv) wr HS.out.pr (dO.out _ _ HS.out.be (tr _ _)).2.2 HN.out gj.out av)
  cases ho:eY l p with
  |true=>
   have j:=HE.out;rw[jK,if_pos ho] at j;rw[ho] at CO;have K:=O j;have B:=HS.out;have c0:=B.ou.frozen 0;have c1:=B.er.frozen 0;have c2:=B.ou.cell 0;have c3:=B.er.cell 0;clear ho j av B;go_wp2_with (go_at_call 47;refine CO.out.mono ?_;rintro e3 w3 ⟨rfl,rfl⟩)
   exact xH HS.out.ret (by rw[K.out];simp) (by rw[K.out]) HQ.out rfl rfl
  |false=>
   have j:=HE.out;rw[jK,if_neg (by rw[ho];decide)] at j;rw[ho] at CO;dsimp only at j;have cI:= @Dh l p;obtain⟨⟨sm,p2,e2⟩,hs⟩:∃z,fM l p=z:=⟨_,rfl⟩;rw[hs] at j cI;have CS:=O (λW (h1:ab W g 77 (cF (U A n c) p (U Av (Z I) cv))) (h2:AA W g A l)=>zW g A n c l p (U Av (Z I) cv) W h1 h2 HN.out gj.out av);rw[hs] at CS;dsimp only at j cI;have K:=O j;have Hu:=O cI;have Kt:=O av;have Ku:=O K8;clear ho j hs cI av K8;go_wp2_with (go_at_call 47;refine CO.out.mono ?_;rintro e3 w3 ⟨rfl,rfl⟩)
   have M:=O (HS.out.go (lP wr g) HS.out.pr);refine sW (λw'=>(∃q,ab w' g 77 (cF (U A n c) q (U Av (Z I) cv)))/\ab w' h3 73 #[OC (some ⟨g,0,none⟩)]) 9 (OD 0 (OD 1 (OD 2 (OD 3 (OD 4 (OD 5 (OK 6 (OK 7 (OK 8 .done))))))))) (by kernel_rfl) (by kernel_rfl) (Jy (by decide)) (by simp only[bY.out,Array.getD_eq_getD_getElem?,List.getElem?_toArray,List.getElem?_cons_zero,List.getElem?_cons_succ,Option.getD_some];rfl) (by simp only[List.map_cons,List.map_nil];rfl) (⟨⟨p,HS.out.pr⟩,HS.out.pc⟩) (λPE K3=>?_)
   iterate 6
    refine Dl (v:=?_) rfl (by rfl) ?_ ?_
    rotate_left
    ·intro _ K4;(try dsimp only at K4);obtain⟨⟨q9,a⟩,b⟩:=K4;unfold cF at a;have a0:=a.cell 2;have b0:=b.cell 0;(try dsimp only at a0 b0);go_simp;(try with_reducible rfl)
    simp only[V,Y,J]
   refine Dk (f:=48) rfl (by rfl) (by first|(go_simp;done)|(go_simp;rfl)) (CS.out _ M.out.pr (λX hX=>dO.out _ X M.out.be hX)) ?_;rintro e4 w4 ⟨jY,(⟨he,s,rfl,rG,dy,T,aJ⟩|⟨he,kU,p',T⟩)⟩;rotate_left 1
   ·right
    have j:=K.out;dsimp only at he kU;rw[if_neg he] at j;rw[show e2=r.2 by rw[j]] at kU;exact⟨_,kU,Eo (M.out.go jY T) (by rw[j];simp) HQ.out rfl rfl⟩
   left
   dsimp only at he rG T;subst he;have D:=O (M.out.go jY T);have Kx:=O (EP aJ M.out.be.size);have JT:=O dy;have Ky:=O rG;have dv:=O (Hu.out rfl);clear jY T aJ dy rG CS CO Hu;refine⟨_,rfl,(λw'=>ab w' g 77 (cF (U A n c) p2 (U Av (Z I) cv))/\ab w' h3 73 #[OC (some ⟨g,0,none⟩)]),λ_ h=>⟨⟨_,h.1⟩,h.2⟩,⟨D.out.pr,D.out.pc⟩,?_⟩;simp only[V,Y,J];unfold fY;refine aj (v:=?_) (w':=?_) rfl (by rfl) ?_ ?_ ?_;rotate_left 2
   ·go_simp;(try (constructor<;>with_reducible rfl))
   ·exact⟨D.out.pr.alloc _,D.out.pc.alloc _⟩
   simp only[V,Y,J];have iP:Below w4.heap.size w4 (w4.alloc (OF #[OB OA s.tm,OB OA s.ty,U s.sA (Z s.sp) s.sc,U s.A (Z s.gs) s.c] 35)):=(Below.refl _ _).alloc (OE _) _;have fJ:=O (D.out.go (dr iP (OE _)) (D.out.pr.alloc _));have Kv:=O (fL Kx.out iP);clear iP;refine pZ JO rfl (by rfl) rfl rfl fJ.out.rows.head rfl (news:=eu s) (m:=1) (by have h:=ab.sl (ab.new w4 35 (eu s).toArray) 0;exact h) rfl (Gx s) (by have:=HX.out;have:=Kt.out;have:=gj.out;dsimp only;omega) fJ.out.be.size ?_;intro v7 w7 kA K5;obtain⟨Ax,cx,Kz⟩:=bg kA;subst Kz;obtain⟨b7,c7,k7⟩:=fJ.out.app Kv.out K5 kA;have B7:=O b7;have C7:=O c7;have K7:=O k7;refine⟨⟨B7.out,C7.out⟩,?_⟩;simp only[V,Y,J];refine K3 _ _ ?_;clear K3 PE;simp only[OI,OM];have f2:=b7.frozen 2;unfold cF at b7;have z2:=b7.cell 2;(try dsimp only at f2 z2);clear b7 c7 k7 K5 kA;go_wp2_with fail
   go_roundg (8*n+1 - p2)
   case measure=>have:=Ku.out;have:=dv.out;omega
   case rel=>
    have h1:=dv.out;rw[HN.out] at h1;refine⟨k,p2,U Ax (Z I+1) cx,I++[s],by omega,h1.2,O (by have:=HK.out;omega),O ?_,K7,O (by rw[OJ,OL];have:=HX.out;omega),O ?_⟩
    ·rw[K.out,OZ,OU,Ky.out]
     simp
    ·intro y hy
     rcases Oa.1 hy with hy|hy
     ·exact HQ.out y hy
     ·rw[ON] at hy
      subst hy;exact JT.out
end Go.Proofs.YthhijgcfbjcgiaaGreatDoor
